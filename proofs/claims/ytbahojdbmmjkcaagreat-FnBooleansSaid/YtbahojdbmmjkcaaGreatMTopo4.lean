import Derived.Test.YtbahojdbmmjkcaaGreatMNetQ
import Derived.Test.YtbahojdbmmjkcaaGreatMValidRegion
import Derived.Test.YtbahojdbmmjkcaaGreatMOwn
import Derived.Test.YtbahojdbmmjkcaaGreatMSnapped
import Derived.Test.YtbahojdbmmjkcaaGreatMSimp
import Derived.Test.YtbahojdbmmjkcaaGreatMRounds
import Derived.Shelf.SlSortCmp.WholeK
import Derived.Test.YtbahojdbmmjkcaaGreatMHot
set_option linter.unusedVariables false
set_option linter.unusedSimpArgs false
namespace Go.Proofs.YtbahojdbmmjkcaaGreat
open Go Go.RowKit
variable {B T j m s:Nat} {E:List Leg} {a b p:Pn} {e:Leg} {hot:List Pn} {l:List (Pn×Pn)} {r x:Option Addr×Nat} {rs:List jO} {u v:Int} {w:World} {xs:List Value}
def EU (p q:Pn) (l:List Pn) :Prop:=∃l1 l2,l=l1++p::q::l2
theorem UO {e:Pn×Pn} (h:e.1≠e.2∧e.1∈hot∧e.2∈hot) :∃rest,(e::l).flatMap (qX hot) =e.1::rest:=by
 obtain ⟨mid,h1,_⟩ :=Vo h
 exact⟨mid++l.flatMap (qX hot),by rw [jjH,h1];rfl⟩
theorem D5 {hot:List Pn} {p q:Pn} :∀ {es:List (Pn×Pn)} {e:Pn×Pn} {z:Pn},Lk (e::es) z→(∀d∈e::es,d.1≠d.2∧d.1∈hot∧d.2∈hot)→EU p q ((e::es).flatMap (qX hot) ++ [z])→∃d∈e::es,EU p q (qC d.1 d.2 hot)
 | [],e,z,hl,hm,hc=>by
  obtain ⟨mid,h1,h2⟩ :=Vo (hm e (jjJ ..))
  have hz:e.2=z:=hl
  refine⟨e,jjJ ..,?_⟩
  rw [h2,hz]
  simpa using hc
 | f::l,e,z,hl,hm,hc=>by
  obtain ⟨mid,h1,h2⟩ :=Vo (hm e (jjJ ..))
  obtain ⟨rest,hr⟩ :=UO (l:=l) (hm f (jjs _ (jjJ ..)))
  have ih:=D5 (p:=p) (q:=q) (es:=l) (e:=f) (z:=z) hl.2 (fun d hd=>hm d (jjs _ hd))
  have lift:EU p q ((f::l).flatMap (qX hot) ++ [z])→∃d∈e::f::l,EU p q (qC d.1 d.2 hot) :=fun h=>by
   obtain ⟨d,hd,hk⟩ :=ih h
   exact⟨d,jjs _ hd,hk⟩
  obtain ⟨l1,l2,hc⟩ :=hc
  rw [jjH,jjq] at hc
  have hB: (f::l).flatMap (qX hot) ++ [z] =f.1:: (rest++ [z]) :=by rw [hr];rfl
  rcases List.append_eq_append_iff.1 hc with⟨zs,h3,h4⟩ |⟨zs,h3,h4⟩
  ·exact lift ⟨zs,l2,h4⟩
  ·match zs,h3,h4 with
   | [],h3,h4=>exact lift ⟨[],l2,h4.symm⟩
   | [x],h3,h4=>
    rw [hB] at h4
    simp only [jjN,jj2,List.cons.injEq] at h4
    refine⟨e,jjJ ..,l1,[],?_⟩
    rw [h2,h3,hl.1,h4.1,h4.2.1]
    simp
   | x::y::zs,h3,h4=>
    simp only [jjN,List.cons.injEq] at h4
    refine⟨e,jjJ ..,l1,zs++ [e.2],?_⟩
    rw [h2,h3,h4.1,h4.2.1]
    simp
theorem je3 {l:List Pn} (h:j+1<l.length) :EU l[j] l[j+1] l:=
 ⟨l.take j,l.drop (j+2),by
  have e1:l.drop j=l[j] ::l.drop (j+1) :=jj5 Om
  have e2:l.drop (j+1) =l[j+1] ::l.drop (j+2) :=jj5 h
  rw [←e2,←e1,jjA]⟩
theorem jag {S:List Pn} (h:j<S.length) :EU (pt S j) (pt S (nx S j)) (S++ [pt S 0]) :=by
 have hc:=je3 (l:=S++ [pt S 0]) (j:=j) (by simp;omega)
 have e1: (S++ [pt S 0])[j]'(by simp;omega) =pt S j:=by rw [List.getElem_append_left h,Kg h]
 have e2: (S++ [pt S 0])[j+1]'(by simp;omega) =pt S (nx S j) :=by
  by_cases k:j+1<S.length
  ·rw [List.getElem_append_left k,Kg k,show nx S j=j+1 from jkA k]
  ·rw [List.getElem_append_right Om,show nx S j=0 by unfold nx;rw [show j+1=S.length by omega,jk8]]
   simp
 rw [e1,e2] at hc
 exact hc
theorem Hj {xs:List Pn} (hnd:hot.Nodup) (hb:bare xs) (hm:∀p∈xs,p∈hot) (he:e∈JZ (kv hot xs)) :∃f∈JZ xs,Frag hot (lA f) (lB f) (lA e) (lB e)∧lA e∈hot∧lB e∈hot:=by
 have hS:= (uS hnd hb hm).1
 rw [QC hS] at he
 obtain ⟨pq,hpq,rfl⟩ :=jjx.1 he
 obtain ⟨j,hj,rfl⟩ :=jjx.1 hpq
 have hj:=jko.1 hj
 have hc:=jag hj
 have hSp:=WP (hot:=hot) hb
 have hlk:=Yn (xs:=xs)
 have hok:=U8 hb hm
 have hhd:∀h:0< (kN xs).length,((kN xs)[0]'h).1=pt xs 0:=fun h=>by simp [kN]
 have hlen:0< (kN xs).length:=by rw [wF];exact hb.1
 cases hP:kN xs with
 | nil=>rw [hP] at hlen;exact absurd hlen (by simp)
 | cons e0 es=>
  simp only [hP] at hlk hok hhd hlen hSp
  obtain ⟨rest,hr⟩ :=UO (l:=es) (hok e0 (jjJ ..))
  have h0:pt (kv hot xs) 0=pt xs 0:=by
   rw [hSp,hr,←hhd hlen]
   rfl
  rw [h0,hSp] at hc
  obtain ⟨d,hd,l1,l2,hk⟩ :=D5 hlk hok hc
  refine⟨Nn d,?_,?_,?_,?_⟩
  ·rw [QC hb,hP]
   exact jjx.2 ⟨d,hd,rfl⟩
  ·have:=jfg hnd hk
   rw [←hSp] at this
   exact this
  ·exact BE (xs:=xs) (by show pt (kv hot xs) j∈_;rw [←Kg hj];exact jju _)
  ·have hn:nx (kv hot xs) j< (kv hot xs).length:=jkR _ Om
   exact BE (xs:=xs) (by show pt (kv hot xs) (nx (kv hot xs) j)∈_;rw [←Kg hn];exact jju _)
theorem Ft {rs:List jO} {e:Leg} :∀k,e∈qE rs k↔∃j,j<k∧e∈JZ (rg rs j)
 | 0=>by simp [qE]
 | k+1=>by
  show e∈qE rs k++JZ (rg rs k)↔_
  rw [jjz,Ft k]
  constructor
  ·rintro(⟨j,h1,h2⟩ | h)
   ·exact⟨j,by omega,h2⟩
   ·exact⟨k,by omega,h⟩
  ·rintro⟨j,h1,h2⟩
   by_cases h:j=k
   ·subst h;exact .inr h2
   ·exact .inl ⟨j,by omega,h2⟩
theorem uU :e∈jt rs↔∃r∈rs,e∈JZ r:=by
 unfold jt
 rw [Ft]
 constructor
 ·rintro⟨j,h1,h2⟩
  exact⟨rg rs j,by rw [←wu h1];exact jju _,h2⟩
 ·rintro⟨r,h1,h2⟩
  obtain ⟨j,hj,e1⟩ :=jj0 h1
  exact⟨j,hj,by rw [←wu hj,e1];exact h2⟩
def jbu (hot:List Pn) (E:List Leg) :Prop:=∀e∈E,∀f∈E,RP hot (lA e) (lB e) (lA f) (lB f)
def NoX (E:List Leg) :Prop:=∀e∈E,∀f∈E,qg (lA e) (lB e) (lA f) (lB f)≠true
theorem NoX.inv (h:NoX E) :jbu hot E:=fun e he f hf hs=>absurd hs (h e he f hf)
theorem SQ (hnd:hot.Nodup) (hb:bareG hot rs) (h:jbu hot (jt rs)) :NoX (jt (qq hot rs)) :=fun e he f hf=>by
 obtain ⟨r,hr,he⟩ :=uU.1 he
 obtain ⟨s,hs,hf⟩ :=uU.1 hf
 obtain ⟨r0,hr0,rfl⟩ :=jjx.1 hr
 obtain ⟨s0,hs0,rfl⟩ :=jjx.1 hs
 obtain ⟨e0,he0,F,m1,m2⟩ :=Hj hnd (hb r0 hr0).1 (hb r0 hr0).2 he
 obtain ⟨f0,hf0,G,m3,m4⟩ :=Hj hnd (hb s0 hs0).1 (hb s0 hs0).2 hf
 exact NV F G m1 m2 m3 m4 (h e0 (uU.2 ⟨r0,hr0,he0⟩) f0 (uU.2 ⟨s0,hs0,hf0⟩))
def RE (hot:List Pn) :Nat→List jO→List jO
 | 0,rs=>rs
 | n+1,rs=>RE hot n (qq hot rs)
theorem CH (hot:List Pn) :∀n rs ss,RE hot n (rs++ss) =RE hot n rs++RE hot n ss
 | 0,_,_=>rfl
 | n+1,rs,ss=>by
  show RE hot n (qq hot (rs++ss)) =_
  rw [show qq hot (rs++ss) =qq hot rs++qq hot ss by simp [qq],CH]
  rfl
theorem Iv {hot:List Pn} {rs:List jO} (h:qq hot rs=rs) :∀n,RE hot n rs=rs
 | 0=>rfl
 | n+1=>by
  show RE hot n (qq hot rs) =rs
  rw [h,Iv h n]
theorem Iu {hot:List Pn} :∀m n rs,RE hot (m+n) rs=RE hot n (RE hot m rs)
 | 0,n,rs=>by rw [jjP];rfl
 | m+1,n,rs=>by
  rw [show m+1+n= (m+n) +1 by omega]
  exact Iu m n (qq hot rs)
theorem CI {hot:List Pn} (hnd:hot.Nodup) :∀n rs,bareG hot rs→jbu hot (jt rs)→bareG hot (RE hot n rs)∧jbu hot (jt (RE hot n rs))
 | 0,rs,h1,h2=>⟨h1,h2⟩
 | n+1,rs,h1,h2=>CI hnd n (qq hot rs) (h1.snap hnd) (SQ hnd h1 h2).inv
theorem EI {hot:List Pn} :∀f {rs ss:List jO} {r q:Nat},v6 hot f rs r=some (ss,q)→qq hot ss=ss∧∃n,ss=RE hot n rs
 | 0,_,_,_,_,h=>by cases h
 | f+1,rs,ss,r,q,h=>by
  unfold v6 at h
  split at h
  ·cases h
  ·split at h
   ·rename_i e
    injection h with h
    injection h with h1 h2
    subst h1
    exact⟨e,0,rfl⟩
   ·obtain ⟨h1,n,h2⟩ :=EI f h
    exact⟨h1,n+1,h2⟩
theorem SK {hot:List Pn} :∀ {es:List (Pn×Pn)},(∀d∈es,d.1≠d.2∧d.1∈hot∧d.2∈hot)→(es.flatMap (qX hot)).length=es.length→∀e∈es,qC e.1 e.2 hot= [e.1,e.2]
 | [],_,_,e,he=>by cases he
 | d::l,h,hl,e,he=>by
  obtain ⟨mid,h1,h2⟩ :=Vo (h d (jjJ ..))
  have hg:= (Hl (es:=l) fun x hx=>h x (jjs _ hx)).1
  rw [jjH,h1,jjk,jjr,jjr] at hl
  rcases jjw.1 he with rfl | he
  ·obtain rfl:mid= [] :=jjW Om
   rw [h2,h1]
   rfl
  ·exact SK (fun x hx=>h x (jjs _ hx)) Om e he
theorem Le (hb:bareG hot rs) (hs:qq hot rs=rs) (he:e∈jt rs) :lA e∈hot∧lB e∈hot∧lA e≠lB e∧qC (lA e) (lB e) hot= [lA e,lB e] :=by
 obtain ⟨r,hr,he⟩ :=uU.1 he
 have hsr:kv hot r=r:=by
  have:∀ {l:List jO},l.map (kv hot) =l→∀x∈l,kv hot x=x:=fun {l} =>by
   induction l with
   | nil=>intro _ x hx;cases hx
   | cons y l ih=>
    intro h x hx
    simp only [jjF,List.cons.injEq] at h
    rcases jjw.1 hx with rfl | hx
    ·exact h.1
    ·exact ih h.2 x hx
  exact this hs r hr
 obtain ⟨h1,h2⟩ :=hb r hr
 have hok:=U8 h1 h2
 rw [QC h1] at he
 obtain ⟨d,hd,rfl⟩ :=jjx.1 he
 have hl: ((kN r).flatMap (qX hot)).length= (kN r).length:=by rw [←WP h1,hsr,wF]
 obtain ⟨g1,g2,g3⟩ :=hok d hd
 exact⟨g2,g3,g1,SK hok hl d hd⟩
theorem NQ (a b c d:Pn) : (Qk a b c d).Nodup:=by
 have key:∀out p,out.Nodup→(Mc a b c d out p).Nodup:=fun out p h=>by
  unfold Mc
  split
  ·rename_i k
   simp only [jjl,jj9] at k
   refine List.nodup_append.2 ⟨h,by simp,fun x hx y hy e=> ?_⟩
   rw [jjp.1 hy] at e
   subst e
   have:=k.1
   rw [List.contains_eq_mem,decide_eq_false_iff_not] at this
   exact this hx
  ·exact h
 exact key _ _ (key _ _ (key _ _ (key _ _ List.nodup_nil)))
theorem jbj (hb:bareG hot rs) (hs:qq hot rs=rs) (hx:NoX (jt rs)) (hok:∀p∈hot,bd2 p) {f:Leg} (he:e∈jt rs) (hf:f∈jt rs) :VG (lA e) (lB e) (lA f) (lB f) =true:=by
 obtain ⟨e1,e2,e3,e4⟩ :=Le hb hs he
 obtain ⟨f1,f2,f3,f4⟩ :=Le hb hs hf
 have hno:=hx e he f hf
 generalize lA e=a at*
 generalize lB e=b at*
 generalize lA f=c at*
 generalize lB f=d at*
 have way:∀ {p q x:Pn},qC p q hot= [p,q]→p∈hot→q∈hot→x∈hot→WW p q x=true→x=p∨x=q:=fun {p q x} h hp hq hx ho=>by
  have hi:= (jhH (hok p hp) (hok q hq) ho).2
  unfold ipB at hi
  simp only [jjl] at hi
  obtain ⟨u,v,hv,_,h0,h1,h2⟩ :=UF (a:=p) (b:=q) (p:=x) hi.2
  have hm:x∈qC p q hot:=kU.2 ⟨hx,TA hv h0 h1 h2⟩
  rw [h] at hm
  simpa using hm
 have both:∀q∈Qk a b c d,(q=a∨q=b)∧(q=c∨q=d) :=fun q hq=>by
  obtain ⟨h1,h2⟩ :=qL.1 hq
  unfold kd at h2
  simp only [jjl] at h2
  have hqh:q∈hot:=by
   rcases h1 with rfl | rfl | rfl | rfl<;>assumption
  exact⟨way e4 e1 e2 hqh h2.1,way f4 f1 f2 hqh h2.2⟩
 have nd:=NQ a b c d
 unfold VG
 split
 ·rfl
 ·split
  ·rename_i h2
   exact absurd (IP h2) hno
  ·split
   ·rename_i h1
    have:∃q,q∈Qk a b c d:=by
     unfold Qd at h1
     cases hh:Qk a b c d with
     | nil=>rw [hh] at h1;simp at h1;split at h1<;>omega
     | cons x l=>exact⟨x,by simp⟩
    obtain ⟨q,hq⟩ :=this
    obtain ⟨k1,k2⟩ :=both q hq
    simp only [jj9,jkV,decide_eq_false_iff_not,ne_eq,Decidable.not_not]
    rcases k1 with rfl | rfl<;>rcases k2 with rfl | rfl<;>simp
   ·split
    ·rename_i h3
     unfold Qd at h3
     match hh:Qk a b c d with
     | [] =>rw [hh] at h3;simp at h3;split at h3<;>omega
     | [x] =>rw [hh] at h3;simp at h3
     | x::y::l=>
      rw [hh] at nd both
      have hxy:x≠y:=fun e=> (jkJ.1 nd).1 (by rw [e];simp)
      obtain ⟨k1,k2⟩ :=both x (by simp)
      obtain ⟨k3,k4⟩ :=both y (by simp)
      rw [decide_eq_true_iff]
      rcases k1 with rfl | rfl<;>rcases k3 with rfl | rfl
      ·exact absurd rfl hxy
      ·rcases k2 with rfl | rfl<;>rcases k4 with rfl | rfl
       ·exact absurd rfl hxy
       ·exact .inl ⟨rfl,rfl⟩
       ·exact .inr ⟨rfl,rfl⟩
       ·exact absurd rfl hxy
      ·rcases k2 with rfl | rfl<;>rcases k4 with rfl | rfl
       ·exact absurd rfl hxy
       ·exact .inr ⟨rfl,rfl⟩
       ·exact .inl ⟨rfl,rfl⟩
       ·exact absurd rfl hxy
      ·exact absurd rfl hxy
    ·rfl
theorem yc {c d:Pn} (h:qg a b c d=true) :Qd a b c d=2:=by
 have hn:Qk a b c d= [] :=by
  refine List.eq_nil_iff_forall_not_mem.2 fun q hq=> ?_
  obtain ⟨h1,h2⟩ :=qL.1 hq
  unfold kd at h2
  simp only [jjl] at h2
  have t1:= (KH.1 h2.1).1
  have t2:= (KH.1 h2.2).1
  obtain ⟨s1,s2⟩ :=K8.1 h
  rcases h1 with rfl | rfl | rfl | rfl<;>omega
 unfold Qd
 rw [hn,if_pos (show([] :List Pn).length=0 from rfl),if_pos h]
theorem Ot {E:List Leg} {i k:Nat} (h:Qd (lA (lg E i)) (lB (lg E i)) (lA (lg E k)) (lB (lg E k)) =2) :∀j,k<j→Hg (lA (lg E i)) (lB (lg E i)) (lA (lg E k)) (lB (lg E k))∈cz E i j
 | 0,hj=>absurd hj Om
 | j+1,hj=>by
  unfold cz
  by_cases e:k=j
  ·subst e
   rw [if_pos h]
   simp
  ·exact jka _ (Ot h j Om)
theorem OE {E:List Leg} {i:Nat} {p:Pn} (h:p∈cz E i i) :∀n,i<n→p∈yf E n
 | 0,hn=>absurd hn Om
 | n+1,hn=>by
  unfold yf
  by_cases e:i=n
  ·subst e;exact jkw _ h
  ·exact jka _ (jka _ (OE h n Om))
theorem jd0 {c d:Pn} {t t':Int} (h:sc a b t v=sc c d t' v) :v*tn c d a=t* (tn c d a- tn c d b) :=by
 have e1:2* (v*tn c d a+t* (tn c d b- tn c d a)) = (d.1- c.1) * ((sc a b t v).2- (sc c d t' v).2) - (d.2- c.2) * ((sc a b t v).1- (sc c d t' v).1) :=by simp only [sc,tn,Q0];grind
 rw [h] at e1
 have e2:v*tn c d a+t* (tn c d b- tn c d a) =0:=by
  have: (d.1- c.1) * ((sc c d t' v).2- (sc c d t' v).2) - (d.2- c.2) * ((sc c d t' v).1- (sc c d t' v).1) =0:=by rw [Int.sub_self,Int.sub_self];simp
  omega
 have e3:t* (tn c d a- tn c d b) = -(t* (tn c d b- tn c d a)) :=by grind
 omega
theorem jcf {x y n D0 t:Int} (hd:D0≠0) (hv:0<v) (h:v*n=t*D0) :Zk (2*x) (2* (y- x)) (2*Db x y n D0- 1) t v:=by
 obtain ⟨N,D,hD,hND,g1,g2⟩ :=NE (x:=x) (y:=y) (n:=n) hd
 have hk:v*N=t*D:=by
  rcases hND with⟨_,rfl,rfl⟩ |⟨_,rfl,rfl⟩
  ·rw [Int.mul_neg,Int.mul_neg,h]
  ·exact h
 generalize Db x y n D0=r at*
 unfold Zk
 have e: (2*x*v+t* (2* (y- x))) *D=2* (x*D+ (y- x) *N) *v:=by
  have: (2*x*v+t* (2* (y- x))) *D=2*x*D*v+2* (y- x) * (t*D) :=by grind
  rw [this,←hk]
  grind
 have m1:=jjn g1 (show 0≤v by omega)
 have m2:=jjE g2 hv
 rw [←e] at m1 m2
 have f1: (2*r- 1) *D*v= (2*r- 1) *v*D:=by grind
 have f2: (2*r+1) *D*v= (2*r- 1+2) *v*D:=by grind
 rw [f1] at m1
 rw [f2] at m2
 exact⟨jjY m1 hD,jjV m2 Om⟩
theorem So {c d:Pn} (hs:qg a b c d=true) {t t':Int} (hv:0<v) (h:sc a b t v=sc c d t' v) :wz a b (Hg a b c d) t v:=by
 have hd:=K7 hs
 have hk2:v*crN a c d=t*Nz a b c d:=by
  rw [Za,YK]
  exact jd0 h
 exact⟨jcf hd hv hk2,jcf hd hv hk2⟩
theorem yr {c d:Pn} (h:qg a b c d=true) :qg c d a b=true:=by
 obtain ⟨h1,h2⟩ :=K8.1 h
 exact K8.2 ⟨h2,h1⟩
theorem jar (hh:∀p∈yf E E.length,p∈hot) :jbu hot E:=fun e he f hf hs=>by
 obtain ⟨i,hi,rfl⟩ :=Yc he
 obtain ⟨k,hk,rfl⟩ :=Yc hf
 rcases Nat.lt_trichotomy i k with c | c | c
 ·have hs':=yr hs
  refine⟨Hg (lA (lg E k)) (lB (lg E k)) (lA (lg E i)) (lB (lg E i)),hh _ (OE (Ot (yc hs') k c) _ hk),fun t t' v hv h=> ?_⟩
  rw [xQ (K7 hs) (K7 hs')]
  exact So hs hv h
 ·subst c
  exact absurd rfl (FR hs).2.2.1
 ·exact⟨Hg (lA (lg E i)) (lB (lg E i)) (lA (lg E k)) (lB (lg E k)),hh _ (OE (Ot (yc hs) i c) _ hi),fun t t' v hv h=>So hs hv h⟩
theorem jap {s:Sp} {u' v':Int} (hs:0<s.hd) (hv:0<v) (hv':0<v') (h:highOk s u v) (hle:u'*v≤u*v') :highOk s u' v':=by
 rcases h with h |⟨h,hc⟩
 ·exact .inl (KX hv hv' hs hle h)
 ·have:=vq hv hv' hs hle (jk1 h)
  by_cases k:u'*s.hd=s.hn*v'
  ·exact .inr ⟨k,hc⟩
  ·exact .inl Om
theorem jay {s x:Sp} (hs:0<s.ld) (hx:0<x.ld) (hv:0<v) (h:zC x s=false) (hl:lowOk x u v) :lowOk s u v:=by
 have hn:¬(x.ln*s.ld<s.ln*x.ld∨(x.ln*s.ld=s.ln*x.ld∧x.lc=true∧s.lc=false)) :=fun k=>by rw [GP.2 k] at h;cases h
 have hle:s.ln*x.ld≤x.ln*s.ld:=jkn.1 fun k=>hn (.inl k)
 rcases hl with hl |⟨hl,hc⟩
 ·exact .inl (KX hx hs hv hle hl)
 ·have h1:=vq hx hs hv hle (jk1 hl)
  by_cases k:s.ln*v=u*s.ld
  ·refine .inr ⟨k,?_⟩
   cases hcs:s.lc with
   | true=>rfl
   | false=>
    have h2:=vq (a:=x.ln) (b:=x.ld) (c:=u) (d:=v) (e:=s.ln) (f:=s.ld) hv hx hs Om Om
    exact absurd (.inr ⟨by omega,hc,hcs⟩) hn
  ·exact .inl Om
theorem MU {q:Pn} (hi:Vm a b p=true) (hj:Vm a b q=true) (hne:p≠q) (hs:KQ a b q p=false) {u' v':Int} (hv:0<v) (hv':0<v') (m:yH (J4 a b p) u v) (m':yH (J4 a b q) u' v') :u*v'<u'*v:=by
 rcases jk5 (u*v') (u'*v) with h | h
 ·exact h
 ·exfalso
  have l1:lowOk (J4 a b p) u' v':=jay (K4 a b p).1 (K4 a b q).1 hv' hs m'.1
  have l2:highOk (J4 a b p) u' v':=jap (K4 a b p).2 hv hv' m.2 h
  exact hne (UP hv' ((K5 hv' hi).1 ⟨l1,l2⟩).2 ((K5 hv' hj).1 m').2)
theorem TW {q:Pn} (hi:Vm a b p=true) (hj:Vm a b q=true) (hne:p≠q) :KQ a b p q=true∨KQ a b q p=true:=by
 cases h1:KQ a b p q with
 | true=>exact .inl rfl
 | false=>
  cases h2:KQ a b q p with
  | true=>exact .inr rfl
  | false=>
   exfalso
   obtain ⟨u,v,hv,m,_⟩ :=UF hi
   obtain ⟨u',v',hv',m',_⟩ :=UF hj
   have:=MU hi hj hne h2 hv hv' m m'
   have:=MU hj hi (Ne.symm hne) h1 hv' hv m' m
   omega
theorem OF (h:wz a b p u v) :wz b a p (v- u) v:=by
 have e:∀x y:Int,2*y*v+ (v- u) * (2* (x- y)) =2*x*v+u* (2* (y- x)) :=fun x y=>by grind
 obtain ⟨⟨h1,h2⟩,h3,h4⟩ :=h
 unfold wz Zk
 rw [e,e]
 exact⟨⟨h1,h2⟩,h3,h4⟩
theorem VE (h:Vm a b p=true) :Vm b a p=true:=by
 obtain ⟨u,v,hv,_,h0,h1,hp⟩ :=UF h
 exact MG hv Om Om (OF hp)
theorem jd8 {q:Pn} (hi:Vm a b p=true) (hj:Vm a b q=true) (hne:p≠q) (h:KQ a b p q=true) :KQ b a q p=true:=by
 rcases TW (VE hi) (VE hj) hne with k | k
 ·exfalso
  obtain ⟨u,v,hv,m,h0,h1,hp⟩ :=UF hi
  obtain ⟨u',v',hv',m',h0',h1',hp'⟩ :=UF hj
  have k1:=MU hi hj hne ((Y4 a b).asym _ _ h) hv hv' m m'
  have n1:yH (J4 b a p) (v- u) v:= (K5 hv (VE hi)).2 ⟨⟨by omega,by omega⟩,OF hp⟩
  have n2:yH (J4 b a q) (v'- u') v':= (K5 hv' (VE hj)).2 ⟨⟨by omega,by omega⟩,OF hp'⟩
  have k2:=MU (VE hi) (VE hj) hne ((Y4 b a).asym _ _ k) hv hv' n1 n2
  rw [Int.sub_mul,Int.sub_mul,jj1 v v'] at k2
  omega
 ·exact k
theorem jaG (a b p:Pn) :KN b a p=KN a b p:=by
 have hi:Vm b a p=Vm a b p:=by
  cases h:Vm a b p with
  | true=>exact VE h
  | false=>
   cases h':Vm b a p with
   | true=>rw [VE h'] at h;cases h
   | false=>rfl
 unfold KN yv zF
 rw [hi,jk3 b.1,jk2 b.1,jk3 b.2,jk2 b.2]
theorem LQ {α:Type} {R:α→α→Prop} :∀ {l m:List α},l.Perm m→l.Pairwise R→m.Pairwise R→(∀a∈l,∀b∈l,R a b→R b a→a=b)→l=m
 | [],m,hp,_,_,_=> (List.Perm.nil_eq hp)
 | a::l,m,hp,hl,hm,ha=>by
  cases m with
  | nil=>exact absurd hp.length_eq (by simp)
  | cons b m=>
   have hl':=jjX.1 hl
   have hm':=jjX.1 hm
   have hab:a=b:=by
    have m1:a∈b::m:=hp.subset (jjJ ..)
    have m2:b∈a::l:=hp.symm.subset (jjJ ..)
    rcases jjw.1 m1 with k | k
    ·exact k
    ·rcases jjw.1 m2 with k2 | k2
     ·exact k2.symm
     ·exact ha a (jjJ ..) b m2 (hl'.1 b k2) (hm'.1 a k)
   subst hab
   rw [LQ (List.Perm.cons_inv hp) hl'.2 hm'.2 fun x hx y hy=>ha x (jjs _ hx) y (jjs _ hy)]
theorem TH (hnd:hot.Nodup) :qC b a hot= (qC a b hot).reverse:=by
 have s1:UU (KQ a b) (qC a b hot) :=by rw [Wg];exact ZL a b hot
 have s2:UU (KQ b a) (qC b a hot) :=by rw [Wg];exact ZL b a hot
 have ins:∀p∈qC a b hot,Vm a b p=true:=fun p hp=>Yk (kU.1 hp).2
 have hmem:∀p,p∈qC b a hot↔p∈(qC a b hot).reverse:=fun p=>by
  rw [List.mem_reverse,kU,kU,jaG]
 have hn1:=uL (a:=a) (b:=b) hnd
 have hp: (qC b a hot).Perm (qC a b hot).reverse:= (jlc (uL hnd) (List.pairwise_reverse.2 (hn1.imp Ne.symm))).2 hmem
 refine LQ hp s2 ?_ ?_
 ·refine List.pairwise_reverse.2 ?_
  have both: (qC a b hot).Pairwise (fun x y=> (KQ a b y x=false)∧x≠y∧x∈qC a b hot∧y∈qC a b hot) :=by
   have h2: (qC a b hot).Pairwise (fun x y=>x≠y) :=hn1
   have h3:=s1.and h2
   refine List.Pairwise.imp_of_mem ?_ h3
   intro x y hx hy h
   exact⟨h.1,h.2,hx,hy⟩
  refine both.imp ?_
  rintro x y ⟨h1,h2,h3,h4⟩
  cases k:KQ b a x y with
  | false=>rfl
  | true=>
   have:=jd8 (VE (ins x h3)) (VE (ins y h4)) h2 k
   rw [h1] at this
   cases this
 ·intro x hx y hy h1 h2
  refine Decidable.byContradiction fun hne=> ?_
  have ix:=VE (ins x (List.mem_reverse.1 ((hmem x).1 hx)))
  have iy:=VE (ins y (List.mem_reverse.1 ((hmem y).1 hy)))
  rcases TW ix iy hne with k | k
  ·rw [h2] at k;cases k
  ·rw [h1] at k;cases k
section
variable {P:Program} {n:Nat} {env:List (Nat×Value)} {w0:Bs} {Rs:List Res} {o:Oper} {Q:Exit→Act→World→Prop} {K:Act→World→Prop}
theorem jgb (h: (J3 B T s m xs x).P w) (h0:0<m) :x.1=some ⟨uo x.1,0,none⟩ :=by
 have h:w.ownsRow B T s (.slice x.1 m x.2) m xs:=h
 rcases h.2 with⟨_,e⟩ |⟨g,cap,cur,e,_⟩
 ·omega
 ·injection e with e1
  rw [e1]
  rfl
theorem GH {i:Nat} {v:Value} (h: (J3 B T s m xs x).P w) (hv:xs[i]? =some v) :w.cell? ⟨uo x.1,i,none⟩ =some v:=by
 have h:w.ownsRow B T s (.slice x.1 m x.2) m xs:=h
 have hi:= (List.getElem?_eq_some_iff.1 hv).1
 rcases h.2 with⟨_,e⟩ |⟨g,cap,cur,e,hb,hg,hcap,hmax,hsz,htk⟩
 ·have:=h.1
  rw [e,Nat.zero_mul] at this
  omega
 ·injection e with e1
  rw [e1,uo,cell_of_row w g i cur T (0,0) hg]
  have h1:=h.1
  rw [←htk,List.getElem?_take,if_pos Om] at hv
  simpa using hv
theorem yk {α:Type} (f:α→List Value) (hf:∀a,(f a).length=m) {l:List α} {k off:Nat} {a a':α} (hk:l[k]? =some a) (pre old vs post:List Value) (h1:f a=pre++old++post) (h2:f a'=pre++vs++post) (hl:old.length=vs.length) (ho:off=k*m+pre.length) :qP (l.flatMap f) off vs= (l.set k a').flatMap f:=by
 obtain ⟨hj,e⟩ :=List.getElem?_eq_some_iff.1 hk
 have e1:l=l.take k++a::l.drop (k+1) :=by rw [←e,←jj5 hj,jjA]
 have e2:l.set k a'=l.take k++a'::l.drop (k+1) :=List.set_eq_take_append_cons_drop .. |>.trans (if_pos hj)
 have e3: ((l.take k).flatMap f).length=k*m:=by rw [W0 f m hf,jjC,jku Om]
 have s:=yb vs ((l.take k).flatMap f++pre) old (post++ (l.drop (k+1)).flatMap f) hl
 rw [jjk,e3,←ho] at s
 rw [e2,jjv,jjH,h2]
 conv=>lhs;rw [e1,jjv,jjH,h1]
 simp only [jjq] at s⊢
 exact s
theorem jbh (h: (J3 B T s m xs x).P w) (hj:j≤m) :Src s (sliced x.1 0 j x.2 s) j (xs.take (j*s)) w:=by
 have h:w.ownsRow B T s (.slice x.1 m x.2) m xs:=h
 have hm:j*s≤m*s:=Nat.mul_le_mul_right s hj
 refine⟨by rw [jjC,h.1];omega,?_⟩
 rcases h.2 with⟨e,e0⟩ |⟨g,cap,cur,e,hb,hg,hcap,hmax,hsz,htk⟩
 ·left
  have hj0:j=0:=by omega
  injection e with e1 _ e3
  rw [e1,e3,hj0]
  exact⟨rfl,rfl⟩
 ·right
  injection e with e1 _ e3
  refine⟨⟨g,0,none⟩,x.2,?_,fun q u hu=> ?_⟩
  ·rw [e1]
   unfold sliced
   split
   ·rfl
   ·simp [Q1]
  ·have hq:= (List.getElem?_eq_some_iff.1 hu).1
   rw [jjC] at hq
   rw [List.getElem?_take,if_pos Om,←htk,List.getElem?_take,if_pos (by have:=h.1;omega)] at hu
   rw [Q1,jjP,cell_of_row w g q cur T (0,0) hg]
   simpa using hu
theorem jbg (h: (J3 B T s m xs x).P w) (hj:j≤m) :Src s (sliced x.1 j m x.2 s) (m- j) (xs.drop (j*s)) w:=by
 have h:w.ownsRow B T s (.slice x.1 m x.2) m xs:=h
 refine⟨by rw [jjO,h.1,Nat.sub_mul],?_⟩
 rcases h.2 with⟨e,e0⟩ |⟨g,cap,cur,e,hb,hg,hcap,hmax,hsz,htk⟩
 ·left
  subst e0
  have hj0:j=0:=by omega
  injection e with e1 _ e3
  rw [e1,e3,hj0]
  exact⟨rfl,rfl⟩
 ·right
  injection e with e1 _ e3
  by_cases hz:x.2=j
  ·refine⟨⟨g,0,none⟩,x.2- j,by rw [e1];unfold sliced;rw [if_pos hz],fun q u hu=> ?_⟩
   have hq:= (List.getElem?_eq_some_iff.1 hu).1
   have hjm:j=m:=by omega
   rw [jjO,h.1,hjm] at hq
   omega
  ·refine⟨⟨g,0+j*s,none⟩,x.2- j,by rw [e1];unfold sliced;rw [if_neg hz];simp [Q1],fun q u hu=> ?_⟩
   have hq:= (List.getElem?_eq_some_iff.1 hu).1
   rw [jjO,h.1] at hq
   rw [List.getElem?_drop,←htk,List.getElem?_take,if_pos Om] at hu
   rw [Q1,jjP,cell_of_row w g _ cur T (0,0) hg]
   simpa using hu
theorem UT {U:Nat} {x y:Operand} {k q off:Nat} {cs vs:List Value} {v:Value} (ho:o.op= .store T x y) (hd:o.dst=none) (hx:ev env x=some (.pointer (some ⟨uo r.1,off,none⟩))) (hy:ev env y=some v) (hv:v.cells=vs.toArray) (h1:vs.all (·.oneCell') =true) (hz: (P.info? T).map (·.size) =some m) (hm:vs.length=m) (hk:Rs[k]? =some (J3 B U s q cs r)) (h0:0<vs.length) (hlt:off+vs.length≤cs.length) (h:At n env w0 (Rs.set k (J3 B U s q (qP cs off vs) r)) K) :At n env w0 Rs (fun a w=>o.wp P a w K Q) :=fun a w hf hs=>by
 have hr:w.ownsRow B U s (.slice r.1 q r.2) q cs:= (hs.all k _ hk).1
 have hlow:=fun b hb=> (hs.all k _ hk).2.1 b hb
 rcases hr.2 with⟨_,e0⟩ |⟨g,cap,cur,e,hb,hg,hcap,hmax,hsz,htk⟩
 ·have:=hr.1
  rw [e0,Nat.zero_mul] at this
  omega
 ·injection e with e1 _ e3
  have hgb:uo r.1=g:=by rw [e1];rfl
  rw [hgb] at hx
  have hcl:cs.length=q*s:=hr.1
  have hcur:cur.toList=cs++cur.toList.drop (q*s) :=by rw [←htk,jjA]
  have hlen:cs.length≤cur.toList.length:=by rw [hcur,jjk];omega
  have hh:w.heap[g]? =some (.cells cur.toList.toArray U (0,0)) :=by rw [jkB];exact hg
  have hso: (sizeOf T).run P w= .ok m w:=by
   obtain ⟨i,hi,hs'⟩ :=jkU.1 hz
   simp [sizeOf,typeInfo,hi,hs']
  have hst:=ud (P:=P) vs off 0 cur.toList w hh Om h1
  have hrun: (execOp a.eval o).run P w= .ok .skip (w.setRow g (qP cur.toList off vs).toArray) :=by
   unfold execOp
   simp only [ho,hf.ev hx,hf.ev hy,Instr.storeAt,Instr.sureAddr,storeVar,hv]
   simp only [Sem.run_bind,Sem.run_pure,Result.andThen_ok,hso]
   have:¬(vs.toArray.size≠m) :=by simp [hm]
   simp only [this,if_false,hst,Result.andThen_ok]
   rfl
  show o.upon P a K Q ((execOp a.eval o).run P w)
  rw [hrun,Oper.upon_skip,hd]
  refine h _ _ hf (hs.upd hk ⟨by simpa using hs.over.os,by simpa using hs.over.tape,by simpa using hs.over.output,by simpa using hs.over.size,fun c hc hx'=> ?_⟩ (by simp) (fun c _ hne=>setRow_other w g c _ (fun e=>hne (by rw [e];show Value.ownBlock (.slice r.1 q r.2) =some g;rw [e1];rfl))) ?_ (fun c hc=> .inl hc) J)
  ·have:=hlow g (by show Value.ownBlock (.slice r.1 q r.2) =some g;rw [e1];rfl)
   rw [setRow_other w g c _ (fun e=>this.elim (fun h1=>by omega) (fun h1=>hx' (e▸h1)))]
   exact hs.over.block c hc hx'
  ·refine⟨by rw [kG];exact hr.1, .inr ⟨g,cap,(qP cur.toList off vs).toArray,by rw [e1,e3],hb,setRow_heap w g _ _ U (0,0) hg,hcap,hmax,by simp [kG,hsz],?_⟩⟩
   rw [jkr,hcur,ZJ Om,List.take_left' (by rw [kG];exact hr.1)]
end
end Go.Proofs.YtbahojdbmmjkcaaGreat
namespace Go.Proofs.YtbahojdbmmjkcaaGreat
open Go Go.Shelf
def Y5:Go.Shelf.Ren:=⟨fun | 6=>182 | 15=>168 | 14=>233 | 28=>226 | 29=>227 | 20=>259 | 21=>260 | 22=>261 | 23=>262 | 24=>263 | 25=>264 | 26=>265 | 27=>266 | 46=>277 | 47=>252 | 48=>253 | 49=>278 | 50=>279 | 57=>282 | n=>n,fun | 22=>93 | 24=>96 | 25=>220 | 3=>3 | 39=>184 | 0=>0 | 53=>252 | 55=>139 | 4=>4 | 46=>246 | 45=>245 | 50=>199 | 5=>5 | 9=>9 | 66=>280 | 70=>284 | 76=>298 | 77=>299 | n=>n,fun | n=>n⟩
theorem jd9:Go.Proofs.SlLaysF0.n6 Tryz.prog Y5:= {
 mixed:=by kernel_rfl
 f6:=⟨Tryz.f182.name,by decide,Tryz.func182.trans (congrArg some Kr)⟩
 f14:=⟨Tryz.f233.name,by decide,Tryz.func233.trans (congrArg some Kr)⟩
 f15:=Tryz.func168.trans (congrArg some Kr)
 f20:=⟨Tryz.f259.name,by decide,Tryz.func259.trans (congrArg some Kr)⟩
 f21:=⟨Tryz.f260.name,by decide,Tryz.func260.trans (congrArg some Kr)⟩
 f22:=⟨Tryz.f261.name,by decide,Tryz.func261.trans (congrArg some Kr)⟩
 f23:=⟨Tryz.f262.name,by decide,Tryz.func262.trans (congrArg some Kr)⟩
 f24:=⟨Tryz.f263.name,by decide,Tryz.func263.trans (congrArg some Kr)⟩
 f25:=⟨Tryz.f264.name,by decide,Tryz.func264.trans (congrArg some Kr)⟩
 f26:=⟨Tryz.f265.name,by decide,Tryz.func265.trans (congrArg some Kr)⟩
 f27:=⟨Tryz.f266.name,by decide,Tryz.func266.trans (congrArg some Kr)⟩
 f28:=Tryz.func226.trans (congrArg some Kr)
 f29:=Tryz.func227.trans (congrArg some Kr)
 f46:=⟨Tryz.f277.name,by decide,Tryz.func277.trans (congrArg some Kr)⟩
 f47:=Tryz.func252.trans (congrArg some Kr)
 f48:=Tryz.func253.trans (congrArg some Kr)
 f49:=⟨Tryz.f278.name,by decide,Tryz.func278.trans (congrArg some Kr)⟩
 f50:=⟨Tryz.f279.name,by decide,Tryz.func279.trans (congrArg some Kr)⟩
 f57:=⟨Tryz.f282.name,by decide,Tryz.func282.trans (congrArg some Kr)⟩
 t0:=Tryz.underlying0
 a0:=Tryz.isAgg0
 z0:=Tryz.sizeOf0
 v0:=Tryz.zeroValue0
 t3:=Tryz.underlying3
 a3:=Tryz.isAgg3
 z3:=Tryz.sizeOf3
 v3:=Tryz.zeroValue3
 t4:=Tryz.underlying4
 a4:=Tryz.isAgg4
 z4:=Tryz.sizeOf4
 v4:=Tryz.zeroValue4
 t5:=Tryz.underlying5
 a5:=Tryz.isAgg5
 z5:=Tryz.sizeOf5
 v5:=Tryz.zeroValue5
 t9:=Tryz.underlying9
 a9:=Tryz.isAgg9
 z9:=Tryz.sizeOf9
 v9:=Tryz.zeroValue9
 t22:=Tryz.underlying93
 a22:=Tryz.isAgg93
 z22:=Tryz.sizeOf93
 v22:=Tryz.zeroValue93
 t25:=Tryz.underlying220
 a25:=Tryz.isAgg220
 z25:=Tryz.sizeOf220
 v25:=Tryz.zeroValue220
 t39:=Tryz.underlying184
 a39:=Tryz.isAgg184
 z39:=Tryz.sizeOf184
 v39:=Tryz.zeroValue184
 t45:=Tryz.underlying245
 a45:=Tryz.isAgg245
 z45:=Tryz.sizeOf245
 v45:=Tryz.zeroValue245
 t46:=Tryz.underlying246
 a46:=Tryz.isAgg246
 z46:=Tryz.sizeOf246
 v46:=Tryz.zeroValue246
 t50:=Tryz.underlying199
 a50:=Tryz.isAgg199
 z50:=Tryz.sizeOf199
 v50:=Tryz.zeroValue199
 t53:=Tryz.underlying252
 a53:=Tryz.isAgg252
 z53:=Tryz.sizeOf252
 v53:=Tryz.zeroValue252
 t55:=Tryz.underlying139
 a55:=Tryz.isAgg139
 z55:=Tryz.sizeOf139
 v55:=Tryz.zeroValue139
 t66:=Tryz.underlying280
 a66:=Tryz.isAgg280
 z66:=Tryz.sizeOf280
 v66:=Tryz.zeroValue280
 t70:=Tryz.underlying284
 a70:=Tryz.isAgg284
 z70:=Tryz.sizeOf284
 v70:=Tryz.zeroValue284
 t76:=Tryz.underlying298
 a76:=Tryz.isAgg298
 z76:=Tryz.sizeOf298
 v76:=Tryz.zeroValue298
 t77:=Tryz.underlying299
 a77:=Tryz.isAgg299
 z77:=Tryz.sizeOf299
 v77:=Tryz.zeroValue299}
end Go.Proofs.YtbahojdbmmjkcaaGreat
