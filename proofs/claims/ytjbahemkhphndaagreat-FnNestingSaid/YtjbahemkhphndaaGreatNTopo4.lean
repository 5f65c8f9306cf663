import Derived.Test.YtjbahemkhphndaaGreatNNetQ
import Derived.Shelf.SlSortCmp.WholeK
import Derived.Test.YtjbahemkhphndaaGreatNHot
set_option linter.unusedVariables false
set_option linter.unusedSimpArgs false
namespace Go.Proofs.YtjbahemkhphndaaGreat
open Go Go.RowKit
variable{E:List Leg}{a b p:Pn}{e:Leg}{hot:List Pn}{j:Nat}{l:List (Pn×Pn)}{rs:List jI}{u v:Int}
def jbE(p q:Pn)(l:List Pn):Prop:=∃l1 l2,l=l1++p::q::l2
theorem xO{e:Pn×Pn}(h:e.1≠e.2/\e.1∈hot/\e.2∈hot):∃rest,(e::l).flatMap (QA hot)=e.1::rest:=by
 obtain⟨mid,h1,_⟩:=wv h;exact⟨mid++l.flatMap (QA hot),by rw[jl4,h1];rfl⟩
theorem F5{hot:List Pn}{p q:Pn}:∀{es:List (Pn×Pn)} {e:Pn×Pn} {z:Pn},Lk (e::es) z->(∀d∈e::es,d.1≠d.2/\d.1∈hot/\d.2∈hot)->jbE p q ((e::es).flatMap (QA hot)++[z])->∃d∈e::es,jbE p q (qJ d.1 d.2 hot)
 |[],e,z,hl,hm,hc=>by
  obtain⟨mid,h1,h2⟩:=wv (hm e (jl7 ..));have hz:e.2=z:=hl
  refine⟨e,jl7 ..,?_⟩;rw[h2,hz];simpa using hc
 |f::l,e,z,hl,hm,hc=>by
  obtain⟨mid,h1,h2⟩:=wv (hm e (jl7 ..));obtain⟨rest,hr⟩:=xO (l:=l) (hm f (jlQ _ (jl7 ..)));have ih:=F5 (p:=p) (q:=q) (es:=l) (e:=f) (z:=z) hl.2 (λd hd=>hm d (jlQ _ hd))
  have lift:jbE p q ((f::l).flatMap (QA hot)++[z])->∃d∈e::f::l,jbE p q (qJ d.1 d.2 hot):=λh=>by
   obtain⟨d,hd,hk⟩:=ih h;exact⟨d,jlQ _ hd,hk⟩
  obtain⟨l1,l2,hc⟩:=hc;rw[jl4,jlT] at hc;have hB:(f::l).flatMap (QA hot)++[z]=f.1::(rest++[z]):=by rw[hr];rfl
  rcases List.append_eq_append_iff.1 hc with⟨zs,h3,h4⟩|⟨zs,h3,h4⟩
  .exact lift ⟨zs,l2,h4⟩
  .match zs,h3,h4 with
   |[],h3,h4=>exact lift ⟨[],l2,h4.symm⟩
   |[x],h3,h4=>
    rw[hB] at h4;simp only[jmf,jmt,List.cons.injEq] at h4;refine⟨e,jl7 ..,l1,[],?_⟩;rw[h2,h3,hl.1,h4.1,h4.2.1];simp
   |x::y::zs,h3,h4=>
    simp only[jmf,List.cons.injEq] at h4;refine⟨e,jl7 ..,l1,zs++[e.2],?_⟩;rw[h2,h3,h4.1,h4.2.1];simp
theorem jg4{l:List Pn}(h:j+1<l.length):jbE l[j] l[j+1] l:=
 ⟨l.take j,l.drop (j+2),by
  have e1:l.drop j=l[j]::l.drop (j+1):=jmu Om;have e2:l.drop (j+1)=l[j+1]::l.drop (j+2):=jmu h
  rw[<-e2,<-e1,jl1]⟩
theorem jb2{S:List Pn}(h:j<S.length):jbE (pt S j) (pt S (nx S j)) (S++[pt S 0]):=by
 have hc:=jg4 (l:=S++[pt S 0]) (j:=j) (by simp;omega);have e1:(S++[pt S 0])[j]'(by simp;omega)=pt S j:=by rw[List.getElem_append_left h,KO h]
 have e2:(S++[pt S 0])[j+1]'(by simp;omega)=pt S (nx S j):=by
  by_cases k:j+1<S.length
  .rw[List.getElem_append_left k,KO k,show nx S j=j+1 from jm0 k]
  .rw[List.getElem_append_right Om,show nx S j=0 by unfold nx;rw[show j+1=S.length by omega,jnD]];simp
 rw[e1,e2] at hc;exact hc
theorem F8{xs:List Pn}(hnd:hot.Nodup)(hb:bare xs)(hm:∀p∈xs,p∈hot)(he:e∈Jh (Ko hot xs)):∃f∈Jh xs,Frag hot (lA f) (lB f) (lA e) (lB e)/\lA e∈hot/\lB e∈hot:=by
 have hS:=(U9 hnd hb hm).1;rw[QQ hS] at he;obtain⟨pq,hpq,rfl⟩:=jlR.1 he;obtain⟨j,hj,rfl⟩:=jlR.1 hpq;have hj:=jmB.1 hj
 have hc:=jb2 hj;have hSp:=Uu (hot:=hot) hb
 have hlk:=HC (xs:=xs);have hok:=YZ hb hm
 have hhd:∀h:0<(KN xs).length,((KN xs)[0]'h).1=pt xs 0:=λh=>by simp[KN]
 have hlen:0<(KN xs).length:=by rw[WK];exact hb.1
 cases hP:KN xs with
 |nil=>rw[hP] at hlen;exact absurd hlen (by simp)
 |cons e0 es=>
  simp only[hP] at hlk hok hhd hlen hSp;obtain⟨rest,hr⟩:=xO (l:=es) (hok e0 (jl7 ..));have h0:pt (Ko hot xs) 0=pt xs 0:=by
   rw[hSp,hr,<-hhd hlen];rfl
  rw[h0,hSp] at hc;obtain⟨d,hd,l1,l2,hk⟩:=F5 hlk hok hc;refine⟨mkL d,?_,?_,?_,?_⟩
  .rw[QQ hb,hP];exact jlR.2 ⟨d,hd,rfl⟩
  .have:=jhj hnd hk;rw[<-hSp] at this;exact this
  .exact DB (xs:=xs) (by show pt (Ko hot xs) j∈_;rw[<-KO hj];exact jlY _)
  .have hn:nx (Ko hot xs) j<(Ko hot xs).length:=jnA _ Om;exact DB (xs:=xs) (by show pt (Ko hot xs) (nx (Ko hot xs) j)∈_;rw[<-KO hn];exact jlY _)
theorem U7{rs:List jI}{e:Leg}:∀k,e∈qx rs k↔∃j,j<k/\e∈Jh (rg rs j)
 |0=>by simp[qx]
 |k+1=>by
  show e∈qx rs k++Jh (rg rs k)↔_;rw[jl0,U7 k];constructor
  .rintro(⟨j,h1,h2⟩|h)
   .exact⟨j,by omega,h2⟩
   .exact⟨k,by omega,h⟩
  .rintro⟨j,h1,h2⟩;by_cases h:j=k
   .subst h;exact .inr h2
   .exact .inl ⟨j,by omega,h2⟩
theorem zH :e∈jH rs↔∃r∈rs,e∈Jh r:=by
 unfold jH;rw[U7];constructor
 .rintro⟨j,h1,h2⟩;exact⟨rg rs j,by rw[<-wb h1];exact jlY _,h2⟩
 .rintro⟨r,h1,h2⟩;obtain⟨j,hj,e1⟩:=jmq h1;exact⟨j,hj,by rw[<-wb hj,e1];exact h2⟩
def jdi(hot:List Pn)(E:List Leg):Prop:=∀e∈E,∀f∈E,Ti hot (lA e) (lB e) (lA f) (lB f)
def NoX(E:List Leg):Prop:=∀e∈E,∀f∈E,qC (lA e) (lB e) (lA f) (lB f)≠true
theorem NoX.inv(h:NoX E):jdi hot E:=λe he f hf hs=>absurd hs (h e he f hf)
theorem Nm(hnd:hot.Nodup)(hb:bareG hot rs)(h:jdi hot (jH rs)):NoX (jH (q8 hot rs)):=λe he f hf=>by
 obtain⟨r,hr,he⟩:=zH.1 he;obtain⟨s,hs,hf⟩:=zH.1 hf;obtain⟨r0,hr0,rfl⟩:=jlR.1 hr;obtain⟨s0,hs0,rfl⟩:=jlR.1 hs;obtain⟨e0,he0,F,m1,m2⟩:=F8 hnd (hb r0 hr0).1 (hb r0 hr0).2 he;obtain⟨f0,hf0,G,m3,m4⟩:=F8 hnd (hb s0 hs0).1 (hb s0 hs0).2 hf;exact CE F G m1 m2 m3 m4 (h e0 (zH.2 ⟨r0,hr0,he0⟩) f0 (zH.2 ⟨s0,hs0,hf0⟩))
def Ta(hot:List Pn):Nat->List jI->List jI
 |0,rs=>rs
 |n+1,rs=>Ta hot n (q8 hot rs)
theorem jaj(hot:List Pn):∀n rs ss,Ta hot n (rs++ss)=Ta hot n rs++Ta hot n ss
 |0,_,_=>rfl
 |n+1,rs,ss=>by
  show Ta hot n (q8 hot (rs++ss))=_;rw[show q8 hot (rs++ss)=q8 hot rs++q8 hot ss by simp[q8],jaj];rfl
theorem RJ{hot:List Pn}{rs:List jI}(h:q8 hot rs=rs):∀n,Ta hot n rs=rs
 |0=>rfl
 |n+1=>by
  show Ta hot n (q8 hot rs)=rs;rw[h,RJ h n]
theorem RI{hot:List Pn}:∀m n rs,Ta hot (m+n) rs=Ta hot n (Ta hot m rs)
 |0,n,rs=>by rw[jmd];rfl
 |m+1,n,rs=>by
  rw[show m+1+n=(m+n)+1 by omega];exact RI m n (q8 hot rs)
theorem jak{hot:List Pn}(hnd:hot.Nodup):∀n rs,bareG hot rs->jdi hot (jH rs)->bareG hot (Ta hot n rs)/\jdi hot (jH (Ta hot n rs))
 |0,rs,h1,h2=>⟨h1,h2⟩
 |n+1,rs,h1,h2=>jak hnd n (q8 hot rs) (h1.snap hnd) (Nm hnd h1 h2).inv
theorem jbs{hot:List Pn}:∀f {rs ss:List jI} {r q:Nat},Zx hot f rs r=some (ss,q)->q8 hot ss=ss/\∃n,ss=Ta hot n rs
 |0,_,_,_,_,h=>by cases h
 |f+1,rs,ss,r,q,h=>by
  unfold Zx at h;split at h
  .cases h
  .split at h
   .rename_i e;injection h with h
    injection h with h1 h2
    subst h1;exact⟨e,0,rfl⟩
   .obtain⟨h1,n,h2⟩:=jbs f h;exact⟨h1,n+1,h2⟩
theorem Ng{hot:List Pn}:∀{es:List (Pn×Pn)},(∀d∈es,d.1≠d.2/\d.1∈hot/\d.2∈hot)->(es.flatMap (QA hot)).length=es.length->∀e∈es,qJ e.1 e.2 hot=[e.1,e.2]
 |[],_,_,e,he=>by cases he
 |d::l,h,hl,e,he=>by
  obtain⟨mid,h1,h2⟩:=wv (h d (jl7 ..));have hg:=(Lt (es:=l) λx hx=>h x (jlQ _ hx)).1
  rw[jl4,h1,jlJ,jlS,jlS] at hl;rcases jlP.1 he with rfl|he
  .obtain rfl:mid=[]:=jmh Om;rw[h2,h1];rfl
  .exact Ng (λx hx=>h x (jlQ _ hx)) Om e he
theorem Mc(hb:bareG hot rs)(hs:q8 hot rs=rs)(he:e∈jH rs):lA e∈hot/\lB e∈hot/\lA e≠lB e/\qJ (lA e) (lB e) hot=[lA e,lB e]:=by
 obtain⟨r,hr,he⟩:=zH.1 he;have hsr:Ko hot r=r:=by
  have:∀{l:List jI},l.map (Ko hot)=l->∀x∈l,Ko hot x=x:=λ{l}=>by
   induction l with
   |nil=>intro _ x hx;cases hx
   |cons y l ih=>
    intro h x hx;simp only[jmA,List.cons.injEq] at h;rcases jlP.1 hx with rfl|hx
    .exact h.1
    .exact ih h.2 x hx
  exact this hs r hr
 obtain⟨h1,h2⟩:=hb r hr;have hok:=YZ h1 h2
 rw[QQ h1] at he;obtain⟨d,hd,rfl⟩:=jlR.1 he;have hl:((KN r).flatMap (QA hot)).length=(KN r).length:=by rw[<-Uu h1,hsr,WK]
 obtain⟨g1,g2,g3⟩:=hok d hd;exact⟨g2,g3,g1,Ng hok hl d hd⟩
theorem CA(a b c d:Pn):(QE a b c d).Nodup:=by
 have key:∀out p,out.Nodup->(M3 a b c d out p).Nodup:=λout p h=>by
  unfold M3;split
  .rename_i k;simp only[jlK,jmo] at k;refine List.nodup_append.2 ⟨h,by simp,λx hx y hy e=>?_⟩;rw[jlM.1 hy] at e;subst e;have:=k.1
   rw[List.contains_eq_mem,decide_eq_false_iff_not] at this;exact this hx
  .exact h
 exact key _ _ (key _ _ (key _ _ (key _ _ List.nodup_nil)))
theorem jc9(hb:bareG hot rs)(hs:q8 hot rs=rs)(hx:NoX (jH rs))(hok:∀p∈hot,bd2 p){f:Leg}(he:e∈jH rs)(hf:f∈jH rs):wO (lA e) (lB e) (lA f) (lB f)=true:=by
 obtain⟨e1,e2,e3,e4⟩:=Mc hb hs he;obtain⟨f1,f2,f3,f4⟩:=Mc hb hs hf;have hno:=hx e he f hf
 generalize lA e=a at*;generalize lB e=b at*;generalize lA f=c at*;generalize lB f=d at*;have way:∀{p q x:Pn},qJ p q hot=[p,q]->p∈hot->q∈hot->x∈hot->uV p q x=true->x=p\/x=q:=λ{p q x} h hp hq hx ho=>by
  have hi:=(jj5 (hok p hp) (hok q hq) ho).2;unfold ipB at hi;simp only[jlK] at hi;obtain⟨u,v,hv,_,h0,h1,h2⟩:=yQ (a:=p) (b:=q) (p:=x) hi.2;have hm:x∈qJ p q hot:=KV.2 ⟨hx,Pg hv h0 h1 h2⟩
  rw[h] at hm;simpa using hm
 have both:∀q∈QE a b c d,(q=a\/q=b)/\(q=c\/q=d):=λq hq=>by
  obtain⟨h1,h2⟩:=q7.1 hq;unfold Kb at h2;simp only[jlK] at h2;have hqh:q∈hot:=by
   rcases h1 with rfl|rfl|rfl|rfl<;>assumption
  exact⟨way e4 e1 e2 hqh h2.1,way f4 f1 f2 hqh h2.2⟩
 have nd:=CA a b c d;unfold wO;split
 .rfl
 .split
  .rename_i h2;exact absurd (C2 h2) hno
  .split
   .rename_i h1;have:∃q,q∈QE a b c d:=by
     unfold Qi at h1;cases hh:QE a b c d with
     |nil=>rw[hh] at h1;simp at h1;split at h1<;>omega
     |cons x l=>exact⟨x,by simp⟩
    obtain⟨q,hq⟩:=this;obtain⟨k1,k2⟩:=both q hq;simp only[jmo,jnn,decide_eq_false_iff_not,ne_eq,Decidable.not_not];rcases k1 with rfl|rfl<;>rcases k2 with rfl|rfl<;>simp
   .split
    .rename_i h3;unfold Qi at h3
     match hh:QE a b c d with
     |[]=>rw[hh] at h3;simp at h3;split at h3<;>omega
     |[x]=>rw[hh] at h3;simp at h3
     |x::y::l=>
      rw[hh] at nd both;have hxy:x≠y:=λe=>(jmY.1 nd).1 (by rw[e];simp)
      obtain⟨k1,k2⟩:=both x (by simp);obtain⟨k3,k4⟩:=both y (by simp);rw[decide_eq_true_iff];rcases k1 with rfl|rfl<;>rcases k3 with rfl|rfl
      .exact absurd rfl hxy
      .rcases k2 with rfl|rfl<;>rcases k4 with rfl|rfl
       .exact absurd rfl hxy
       .exact .inl ⟨rfl,rfl⟩
       .exact .inr ⟨rfl,rfl⟩
       .exact absurd rfl hxy
      .rcases k2 with rfl|rfl<;>rcases k4 with rfl|rfl
       .exact absurd rfl hxy
       .exact .inr ⟨rfl,rfl⟩
       .exact .inl ⟨rfl,rfl⟩
       .exact absurd rfl hxy
      .exact absurd rfl hxy
    .rfl
theorem Gs{c d:Pn}(h:qC a b c d=true):Qi a b c d=2:=by
 have hn:QE a b c d=[]:=by
  refine List.eq_nil_iff_forall_not_mem.2 λq hq=>?_
  obtain⟨h1,h2⟩:=q7.1 hq;unfold Kb at h2;simp only[jlK] at h2;have t1:=(KM.1 h2.1).1
  have t2:=(KM.1 h2.2).1;obtain⟨s1,s2⟩:=vU.1 h;rcases h1 with rfl|rfl|rfl|rfl<;>omega
 unfold Qi;rw[hn,if_pos (show([]:List Pn).length=0 from rfl),if_pos h]
theorem Ct{E:List Leg}{i k:Nat}(h:Qi (lA (lg E i)) (lB (lg E i)) (lA (lg E k)) (lB (lg E k))=2):∀j,k<j->Rt (lA (lg E i)) (lB (lg E i)) (lA (lg E k)) (lB (lg E k))∈cz E i j
 |0,hj=>absurd hj Om
 |j+1,hj=>by
  unfold cz;by_cases e:k=j
  .subst e;rw[if_pos h];simp
  .exact jmH _ (Ct h j Om)
theorem CF{E:List Leg}{i:Nat}{p:Pn}(h:p∈cz E i i):∀n,i<n->p∈zb E n
 |0,hn=>absurd hn Om
 |n+1,hn=>by
  unfold zb;by_cases e:i=n
  .subst e;exact jnd _ h
  .exact jmH _ (jmH _ (CF h n Om))
theorem jfV{c d:Pn}{t t':Int}(h:sc a b t v=sc c d t' v):v*tn c d a=t*(tn c d a-tn c d b):=by
 have e1:2*(v*tn c d a+t*(tn c d b-tn c d a))=(d.1-c.1)*((sc a b t v).2-(sc c d t' v).2)-(d.2-c.2)*((sc a b t v).1-(sc c d t' v).1):=by simp only[sc,tn,kU];grind
 rw[h] at e1;have e2:v*tn c d a+t*(tn c d b-tn c d a)=0:=by
  have:(d.1-c.1)*((sc c d t' v).2-(sc c d t' v).2)-(d.2-c.2)*((sc c d t' v).1-(sc c d t' v).1)=0:=by rw[Int.sub_self,Int.sub_self];simp
  omega
 have e3:t*(tn c d a-tn c d b)= -(t*(tn c d b-tn c d a)):=by grind
 omega
theorem jd5{x y n D0 t:Int}(hd:D0≠0)(hv:0<v)(h:v*n=t*D0):Z6 (2*x) (2*(y-x)) (2*D9 x y n D0-1) t v:=by
 obtain⟨N,D,hD,hND,g1,g2⟩:=Cq (x:=x) (y:=y) (n:=n) hd;have hk:v*N=t*D:=by
  rcases hND with⟨_,rfl,rfl⟩|⟨_,rfl,rfl⟩
  .rw[Int.mul_neg,Int.mul_neg,h]
  .exact h
 generalize D9 x y n D0=r at*;unfold Z6;have e:(2*x*v+t*(2*(y-x)))*D=2*(x*D+(y-x)*N)*v:=by
  have:(2*x*v+t*(2*(y-x)))*D=2*x*D*v+2*(y-x)*(t*D):=by grind
  rw[this,<-hk];grind
 have m1:=jlO g1 (show 0<=v by omega);have m2:=jl6 g2 hv
 rw[<-e] at m1 m2;have f1:(2*r-1)*D*v=(2*r-1)*v*D:=by grind
 have f2:(2*r+1)*D*v=(2*r-1+2)*v*D:=by grind
 rw[f1] at m1;rw[f2] at m2;exact⟨jmk m1 hD,jmm m2 Om⟩
theorem TS{c d:Pn}(hs:qC a b c d=true){t t':Int}(hv:0<v)(h:sc a b t v=sc c d t' v):wR a b (Rt a b c d) t v:=by
 have hd:=yB hs;have hk2:v*crN a c d=t*crD a b c d:=by
  rw[Lp,XX];exact jfV h
 exact⟨jd5 hd hv hk2,jd5 hd hv hk2⟩
theorem PR{c d:Pn}(h:qC a b c d=true):qC c d a b=true:=by
 obtain⟨h1,h2⟩:=vU.1 h;exact vU.2 ⟨h2,h1⟩
theorem jce(hh:∀p∈zb E E.length,p∈hot):jdi hot E:=λe he f hf hs=>by
 obtain⟨i,hi,rfl⟩:=Iq he;obtain⟨k,hk,rfl⟩:=Iq hf;rcases Nat.lt_trichotomy i k with c|c|c
 .have hs':=PR hs;refine⟨Rt (lA (lg E k)) (lB (lg E k)) (lA (lg E i)) (lB (lg E i)),hh _ (CF (Ct (Gs hs') k c) _ hk),λt t' v hv h=>?_⟩;rw[Cn (yB hs) (yB hs')];exact TS hs hv h
 .subst c;exact absurd rfl (IY hs).2.2.1
 .exact⟨Rt (lA (lg E i)) (lB (lg E i)) (lA (lg E k)) (lB (lg E k)),hh _ (CF (Ct (Gs hs) i c) _ hi),λt t' v hv h=>TS hs hv h⟩
theorem jcb{s:Sp}{u' v':Int}(hs:0<s.hd)(hv:0<v)(hv':0<v')(h:highOk s u v)(hle:u'*v<=u*v'):highOk s u' v':=by
 rcases h with h|⟨h,hc⟩
 .exact .inl (vj hv hv' hs hle h)
 .have:=vG hv hv' hs hle (jns h);by_cases k:u'*s.hd=s.hn*v'
  .exact .inr ⟨k,hc⟩
  .exact .inl Om
theorem jco{s x:Sp}(hs:0<s.ld)(hx:0<x.ld)(hv:0<v)(h:Zw x s=false)(hl:lowOk x u v):lowOk s u v:=by
 have hn:¬(x.ln*s.ld<s.ln*x.ld\/(x.ln*s.ld=s.ln*x.ld/\x.lc=true/\s.lc=false)):=λk=>by rw[HU.2 k] at h;cases h
 have hle:s.ln*x.ld<=x.ln*s.ld:=jmS.1 λk=>hn (.inl k)
 rcases hl with hl|⟨hl,hc⟩
 .exact .inl (vj hx hs hv hle hl)
 .have h1:=vG hx hs hv hle (jns hl);by_cases k:s.ln*v=u*s.ld
  .refine .inr ⟨k,?_⟩;cases hcs:s.lc with
   |true=>rfl
   |false=>
    have h2:=vG (a:=x.ln) (b:=x.ld) (c:=u) (d:=v) (e:=s.ln) (f:=s.ld) hv hx hs Om Om;exact absurd (.inr ⟨by omega,hc,hcs⟩) hn
  .exact .inl Om
theorem OY{q:Pn}(hi:Vx a b p=true)(hj:Vx a b q=true)(hne:p≠q)(hs:vc a b q p=false){u' v':Int}(hv:0<v)(hv':0<v')(m:Ys (J5 a b p) u v)(m':Ys (J5 a b q) u' v'):u*v'<u'*v:=by
 rcases Int.lt_or_le (u*v') (u'*v) with h|h
 .exact h
 .exfalso;have l1:lowOk (J5 a b p) u' v':=jco (vn a b p).1 (vn a b q).1 hv' hs m'.1
  have l2:highOk (J5 a b p) u' v':=jcb (vn a b p).2 hv hv' m.2 h;exact hne (U5 hv' ((vo hv' hi).1 ⟨l1,l2⟩).2 ((vo hv' hj).1 m').2)
theorem PL{q:Pn}(hi:Vx a b p=true)(hj:Vx a b q=true)(hne:p≠q):vc a b p q=true\/vc a b q p=true:=by
 cases h1:vc a b p q with
 |true=>exact .inl rfl
 |false=>
  cases h2:vc a b q p with
  |true=>exact .inr rfl
  |false=>
   exfalso;obtain⟨u,v,hv,m,_⟩:=yQ hi;obtain⟨u',v',hv',m',_⟩:=yQ hj;have:=OY hi hj hne h2 hv hv' m m'
   have:=OY hj hi (Ne.symm hne) h1 hv' hv m' m;omega
theorem BD(h:wR a b p u v):wR b a p (v-u) v:=by
 have e:∀x y:Int,2*y*v+(v-u)*(2*(x-y))=2*x*v+u*(2*(y-x)):=λx y=>by grind
 obtain⟨⟨h1,h2⟩,h3,h4⟩:=h;unfold wR Z6;rw[e,e];exact⟨⟨h1,h2⟩,h3,h4⟩
theorem VN(h:Vx a b p=true):Vx b a p=true:=by
 obtain⟨u,v,hv,_,h0,h1,hp⟩:=yQ h;exact OD hv Om Om (BD hp)
theorem jf3{q:Pn}(hi:Vx a b p=true)(hj:Vx a b q=true)(hne:p≠q)(h:vc a b p q=true):vc b a q p=true:=by
 rcases PL (VN hi) (VN hj) hne with k|k
 .exfalso;obtain⟨u,v,hv,m,h0,h1,hp⟩:=yQ hi;obtain⟨u',v',hv',m',h0',h1',hp'⟩:=yQ hj;have k1:=OY hi hj hne ((zV a b).asym _ _ h) hv hv' m m'
  have n1:Ys (J5 b a p) (v-u) v:=(vo hv (VN hi)).2 ⟨⟨by omega,by omega⟩,BD hp⟩;have n2:Ys (J5 b a q) (v'-u') v':=(vo hv' (VN hj)).2 ⟨⟨by omega,by omega⟩,BD hp'⟩
  have k2:=OY (VN hi) (VN hj) hne ((zV b a).asym _ _ k) hv hv' n1 n2;rw[jnl,jnl,jmn v v'] at k2;omega
 .exact k
theorem jcx(a b p:Pn):K9 b a p=K9 a b p:=by
 have hi:Vx b a p=Vx a b p:=by
  cases h:Vx a b p with
  |true=>exact VN h
  |false=>
   cases h':Vx b a p with
   |true=>rw[VN h'] at h;cases h
   |false=>rfl
 unfold K9 Yk ZB;rw[hi,jnu b.1,jnt b.1,jnu b.2,jnt b.2]
theorem MK{α:Type}{R:α->α->Prop}:∀{l m:List α},l.Perm m->l.Pairwise R->m.Pairwise R->(∀a∈l,∀b∈l,R a b->R b a->a=b)->l=m
 |[],m,hp,_,_,_=>(List.Perm.nil_eq hp)
 |a::l,m,hp,hl,hm,ha=>by
  cases m with
  |nil=>exact absurd hp.length_eq (by simp)
  |cons b m=>
   have hl':=jmc.1 hl;have hm':=jmc.1 hm
   have hab:a=b:=by
    have m1:a∈b::m:=hp.subset (jl7 ..);have m2:b∈a::l:=hp.symm.subset (jl7 ..)
    rcases jlP.1 m1 with k|k
    .exact k
    .rcases jlP.1 m2 with k2|k2
     .exact k2.symm
     .exact ha a (jl7 ..) b m2 (hl'.1 b k2) (hm'.1 a k)
   subst hab;rw[MK (List.Perm.cons_inv hp) hl'.2 hm'.2 λx hx y hy=>ha x (jlQ _ hx) y (jlQ _ hy)]
theorem Pu(hnd:hot.Nodup):qJ b a hot=(qJ a b hot).reverse:=by
 have s1:ya (vc a b) (qJ a b hot):=by rw[Wd];exact xz a b hot
 have s2:ya (vc b a) (qJ b a hot):=by rw[Wd];exact xz b a hot
 have ins:∀p∈qJ a b hot,Vx a b p=true:=λp hp=>xV (KV.1 hp).2
 have hmem:∀p,p∈qJ b a hot↔p∈(qJ a b hot).reverse:=λp=>by
  rw[List.mem_reverse,KV,KV,jcx]
 have hn1:=uY (a:=a) (b:=b) hnd;have hp:(qJ b a hot).Perm (qJ a b hot).reverse:=(jnH (uY hnd) (List.pairwise_reverse.2 (hn1.imp Ne.symm))).2 hmem
 refine MK hp s2 ?_ ?_
 .refine List.pairwise_reverse.2 ?_;have both:(qJ a b hot).Pairwise (λx y=>(vc a b y x=false)/\x≠y/\x∈qJ a b hot/\y∈qJ a b hot):=by
   have h2:(qJ a b hot).Pairwise (λx y=>x≠y):=hn1;have h3:=s1.and h2
   refine List.Pairwise.imp_of_mem ?_ h3;intro x y hx hy h;exact⟨h.1,h.2,hx,hy⟩
  refine both.imp ?_;rintro x y ⟨h1,h2,h3,h4⟩;cases k:vc b a x y with
  |false=>rfl
  |true=>
   have:=jf3 (VN (ins x h3)) (VN (ins y h4)) h2 k;rw[h1] at this;cases this
 .intro x hx y hy h1 h2;refine Decidable.byContradiction λhne=>?_
  have ix:=VN (ins x (List.mem_reverse.1 ((hmem x).1 hx)));have iy:=VN (ins y (List.mem_reverse.1 ((hmem y).1 hy)))
  rcases PL ix iy hne with k|k
  .rw[h2] at k;cases k
  .rw[h1] at k;cases k
end Go.Proofs.YtjbahemkhphndaaGreat
namespace Go.Proofs.YtjbahemkhphndaaGreat
open Go Go.Shelf
def zW:Go.Shelf.Ren:=⟨λ|6=>142 |15=>130 |14=>163 |28=>156 |29=>157 |20=>172 |21=>173 |22=>174 |23=>175 |24=>176 |25=>177 |26=>178 |27=>179 |46=>183 |47=>165 |48=>166 |49=>184 |50=>185 |57=>187 |n=>n,λ|22=>52 |24=>72 |25=>191 |3=>3 |39=>98 |0=>0 |53=>202 |55=>63 |4=>4 |46=>196 |45=>195 |50=>171 |5=>5 |9=>9 |66=>210 |70=>214 |76=>224 |77=>225 |n=>n,λ|n=>n⟩
theorem jf4:Go.Proofs.SlLaysF0.n6 Tryz.prog zW:={
 mixed:=by kernel_rfl
 f6:=⟨Tryz.f142.name,by decide,Tryz.func142.trans (congrArg some Kr)⟩
 f14:=⟨Tryz.f163.name,by decide,Tryz.func163.trans (congrArg some Kr)⟩
 f15:=Tryz.func130.trans (congrArg some Kr)
 f20:=⟨Tryz.f172.name,by decide,Tryz.func172.trans (congrArg some Kr)⟩
 f21:=⟨Tryz.f173.name,by decide,Tryz.func173.trans (congrArg some Kr)⟩
 f22:=⟨Tryz.f174.name,by decide,Tryz.func174.trans (congrArg some Kr)⟩
 f23:=⟨Tryz.f175.name,by decide,Tryz.func175.trans (congrArg some Kr)⟩
 f24:=⟨Tryz.f176.name,by decide,Tryz.func176.trans (congrArg some Kr)⟩
 f25:=⟨Tryz.f177.name,by decide,Tryz.func177.trans (congrArg some Kr)⟩
 f26:=⟨Tryz.f178.name,by decide,Tryz.func178.trans (congrArg some Kr)⟩
 f27:=⟨Tryz.f179.name,by decide,Tryz.func179.trans (congrArg some Kr)⟩
 f28:=Tryz.func156.trans (congrArg some Kr)
 f29:=Tryz.func157.trans (congrArg some Kr)
 f46:=⟨Tryz.f183.name,by decide,Tryz.func183.trans (congrArg some Kr)⟩
 f47:=Tryz.func165.trans (congrArg some Kr)
 f48:=Tryz.func166.trans (congrArg some Kr)
 f49:=⟨Tryz.f184.name,by decide,Tryz.func184.trans (congrArg some Kr)⟩
 f50:=⟨Tryz.f185.name,by decide,Tryz.func185.trans (congrArg some Kr)⟩
 f57:=⟨Tryz.f187.name,by decide,Tryz.func187.trans (congrArg some Kr)⟩
 t0:=Tryz.underlying0
 a0:=Tryz.isAgg0
 z0:=Tryz.sizeOf0
 v0:=Tryz.zeroValue0
 t3:=Tryz.underlying3
 a3:=Tryz.isAgg3
 z3:=Tryz.sizeOf3
 v3:=Tryz.zeroValue3
 t4:=Tryz.underlying4
 a4:=Tryz.isAgg4
 z4:=Tryz.sizeOf4
 v4:=Tryz.zeroValue4
 t5:=Tryz.underlying5
 a5:=Tryz.isAgg5
 z5:=Tryz.sizeOf5
 v5:=Tryz.zeroValue5
 t9:=Tryz.underlying9
 a9:=Tryz.isAgg9
 z9:=Tryz.sizeOf9
 v9:=Tryz.zeroValue9
 t22:=Tryz.underlying52
 a22:=Tryz.isAgg52
 z22:=Tryz.sizeOf52
 v22:=Tryz.zeroValue52
 t25:=Tryz.underlying191
 a25:=Tryz.isAgg191
 z25:=Tryz.sizeOf191
 v25:=Tryz.zeroValue191
 t39:=Tryz.underlying98
 a39:=Tryz.isAgg98
 z39:=Tryz.sizeOf98
 v39:=Tryz.zeroValue98
 t45:=Tryz.underlying195
 a45:=Tryz.isAgg195
 z45:=Tryz.sizeOf195
 v45:=Tryz.zeroValue195
 t46:=Tryz.underlying196
 a46:=Tryz.isAgg196
 z46:=Tryz.sizeOf196
 v46:=Tryz.zeroValue196
 t50:=Tryz.underlying171
 a50:=Tryz.isAgg171
 z50:=Tryz.sizeOf171
 v50:=Tryz.zeroValue171
 t53:=Tryz.underlying202
 a53:=Tryz.isAgg202
 z53:=Tryz.sizeOf202
 v53:=Tryz.zeroValue202
 t55:=Tryz.underlying63
 a55:=Tryz.isAgg63
 z55:=Tryz.sizeOf63
 v55:=Tryz.zeroValue63
 t66:=Tryz.underlying210
 a66:=Tryz.isAgg210
 z66:=Tryz.sizeOf210
 v66:=Tryz.zeroValue210
 t70:=Tryz.underlying214
 a70:=Tryz.isAgg214
 z70:=Tryz.sizeOf214
 v70:=Tryz.zeroValue214
 t76:=Tryz.underlying224
 a76:=Tryz.isAgg224
 z76:=Tryz.sizeOf224
 v76:=Tryz.zeroValue224
 t77:=Tryz.underlying225
 a77:=Tryz.isAgg225
 z77:=Tryz.sizeOf225
 v77:=Tryz.zeroValue225}
end Go.Proofs.YtjbahemkhphndaaGreat
