import Derived.Test.YtjbahemkhphndaaGreatNSnapG
import Derived.Test.YtjbahemkhphndaaGreatNTopo2
set_option linter.unusedVariables false
set_option linter.unusedSimpArgs false
namespace Go.Proofs.YtjbahemkhphndaaGreat
open Go Go.RowKit
variable{a b c d h':Pn}{e:Leg}{es:List Leg}{hot:List Pn}{m u u' v:Int}
theorem X9{q:Pn}(h:q∈QE a b c d):Qi a b c d=1\/Qi a b c d=3:=by
 unfold Qi;have:(QE a b c d).length≠0:=λe=>by
  have:=jmh e;rw[this] at h;cases h
 rw[if_neg this];split<;>simp
theorem LC{q r:Pn}(h:q∈QE a b c d)(h':r∈QE a b c d)(hne:q≠r):Qi a b c d=3:=by
 unfold Qi
 match hl:QE a b c d,h,h' with
 |[x],h,h'=>exact absurd ((jlM.1 h).trans (jlM.1 h').symm) hne
 |x::y::l,_,_=>simp
theorem jhD(hl:a.2=b.2)(hab:a.1≠b.1)(hcd:c≠d)(hn:¬((a=c/\b=d)\/(a=d/\b=c)))(h:wO a b c d=true):
  ¬(kU (2*c.1) (2*c.2) (2*d.1) (2*d.2) (a.1+b.1) (a.2+b.2)=0/\(min (2*c.1) (2*d.1)<=a.1+b.1/\a.1+b.1<=max (2*c.1) (2*d.1))/\min (2*c.2) (2*d.2)<=a.2+b.2/\a.2+b.2<=max (2*c.2) (2*d.2)):=by
 rintro⟨ht,hx,hy⟩;have hap:vQ a b c d=false:=by
  rw[vQ];simp only[Bool.or_eq_false_iff,decide_eq_false_iff_not];omega
 have k3:Qi a b c d≠3:=λk=>by
  unfold wO at h;rw[hap,k] at h;simp[hn] at h
 have k2:Qi a b c d≠2:=λk=>by
  unfold wO at h;rw[hap,k] at h;simp at h
 have k1:Qi a b c d=1->a=c\/a=d\/b=c\/b=d:=λk=>by
  unfold wO at h;rw[hap,k] at h;simp only[jmF,if_false,if_neg (show¬((1:Int)=2) by omega),if_true,jmo,jnn,decide_eq_false_iff_not,ne_eq,Decidable.not_not] at h;rcases h with((h|h)|h)|h
  .exact .inl h
  .exact .inr (.inl h)
  .exact .inr (.inr (.inl h))
  .exact .inr (.inr (.inr h))
 obtain⟨a1,a2⟩:=a;obtain⟨b1,b2⟩:=b;obtain⟨c1,c2⟩:=c;obtain⟨d1,d2⟩:=d;simp only[Prod.mk.injEq,ne_eq,not_and] at*;subst hl;by_cases hlev:c2=d2
 ·
  subst hlev;have hyy:c2=a2:=by omega
  subst hyy;have hcd':c1≠d1:=λe=>hcd e rfl
  have on1:∀x:Int,(min a1 b1<=x/\x<=max a1 b1)->(min c1 d1<=x/\x<=max c1 d1)->Kb (a1,c2) (b1,c2) (c1,c2) (d1,c2) (x,c2)=true:=λx h1 h2=>by
   rw[Kb,jlK,KM,KM];simp only[tn,kU];refine⟨⟨by simp,h1,by omega⟩,by simp,h2,by omega⟩
  have mem1:∀x:Int,(x=a1\/x=b1\/x=c1\/x=d1)->(min a1 b1<=x/\x<=max a1 b1)->(min c1 d1<=x/\x<=max c1 d1)->(x,c2)∈QE (a1,c2) (b1,c2) (c1,c2) (d1,c2):=λx h0 h1 h2=>
   q7.2 ⟨by rcases h0 with rfl|rfl|rfl|rfl<;>simp,on1 x h1 h2⟩
  refine k3 (LC (q:=(max (min a1 b1) (min c1 d1),c2)) (r:=(min (max a1 b1) (max c1 d1),c2)) (mem1 _ Om Om Om) (mem1 _ Om Om Om) λe=>?_);simp only[Prod.mk.injEq] at e;omega
 .by_cases hc:c2=a2
  ·
   have e1:kU (2*c1) (2*c2) (2*d1) (2*d2) (a1+b1) (a2+a2)= -2*((d2-c2)*(a1+b1-2*c1)):=by subst hc;simp only[kU];grind
   have e2:(d2-c2)*(a1+b1-2*c1)=0:=by omega
   have e3:a1+b1=2*c1:=by rcases N0 e2 with k|k<;>omega
   subst hc;have m:(c1,c2)∈QE (a1,c2) (b1,c2) (c1,c2) (d1,d2):=q7.2 ⟨by simp,by
    rw[Kb,jlK,KM,KM];simp only[tn,kU];refine⟨⟨by simp,by omega,by omega⟩,by simp,by omega,by omega⟩⟩
   rcases X9 m with k|k
   .exact absurd (k1 k) Om
   .exact k3 k
  .by_cases hd:d2=a2
   .have e1:kU (2*c1) (2*c2) (2*d1) (2*d2) (a1+b1) (a2+a2)=2*((d2-c2)*(2*d1-(a1+b1))):=by subst hd;simp only[kU];grind
    have e2:(d2-c2)*(2*d1-(a1+b1))=0:=by omega
    have e3:a1+b1=2*d1:=by rcases N0 e2 with k|k<;>omega
    subst hd;have m:(d1,d2)∈QE (a1,d2) (b1,d2) (c1,c2) (d1,d2):=q7.2 ⟨by simp,by
     rw[Kb,jlK,KM,KM];simp only[tn,kU];refine⟨⟨by simp,by omega,by omega⟩,by grind,by omega,by omega⟩⟩
    rcases X9 m with k|k
    .exact absurd (k1 k) Om
    .exact k3 k
   ·
    by_cases he:(QE (a1,a2) (b1,a2) (c1,c2) (d1,d2)).length=0
    .have hs:qC (a1,a2) (b1,a2) (c1,c2) (d1,d2)=true:=by
      rw[vU];have s1:=x8 (a:=b1-a1) (b:=c2-a2) (p:=tn (a1,a2) (b1,a2) (c1,c2)) (by simp only[tn,kU];grind)
      have s2:=x8 (a:=b1-a1) (b:=d2-a2) (p:=tn (a1,a2) (b1,a2) (d1,d2)) (by simp only[tn,kU];grind);have s3:=x8 (a:=d2-c2) (b:=b1-a1) (p:=tn (c1,c2) (d1,d2) (a1,a2)-tn (c1,c2) (d1,d2) (b1,a2)) (by simp only[tn,kU];grind)
      have s4:2*(tn (c1,c2) (d1,d2) (a1,a2)+tn (c1,c2) (d1,d2) (b1,a2))=0:=by rw[<-ht];simp only[tn,kU];grind
      clear k1 k2 k3 h hap ht he hn hcd;generalize tn (a1,a2) (b1,a2) (c1,c2)=T1 at*;generalize tn (a1,a2) (b1,a2) (d1,d2)=T2 at*;generalize tn (c1,c2) (d1,d2) (a1,a2)=T3 at*;generalize tn (c1,c2) (d1,d2) (b1,a2)=T4 at*;rcases Int.lt_or_gt_of_ne hab with g|g<;>rcases(show c2<a2/\a2<d2\/d2<a2/\a2<c2 by omega) with g'|g'
      .have t1:T1<0:=by omega
       have t2:0<T2:=by omega
       exact⟨.inl ⟨t1,t2⟩,by omega⟩
      .have t1:0<T1:=by omega
       have t2:T2<0:=by omega
       exact⟨.inr ⟨t1,t2⟩,by omega⟩
      .have t1:0<T1:=by omega
       have t2:T2<0:=by omega
       exact⟨.inr ⟨t1,t2⟩,by omega⟩
      .have t1:T1<0:=by omega
       have t2:0<T2:=by omega
       exact⟨.inl ⟨t1,t2⟩,by omega⟩
     refine k2 ?_;unfold Qi;rw[if_pos he,if_pos hs]
    .have:∃q,q∈QE (a1,a2) (b1,a2) (c1,c2) (d1,d2):=by
      cases hh:QE (a1,a2) (b1,a2) (c1,c2) (d1,d2) with
      |nil=>rw[hh] at he;exact absurd rfl he
      |cons x l=>exact⟨x,by simp⟩
     obtain⟨q,hq⟩:=this;rcases X9 hq with k|k
     .exact absurd (k1 k) Om
     .exact k3 k
theorem IG(f:Int->Int->Int){xs:List (Int×Int)}:∀k,k<=xs.length->sm (λe:Leg=>f e.ax e.ay-f e.bx e.b_y) (qI xs k)=f (px xs 0) (py xs 0)-f (px xs (k % xs.length)) (py xs (k % xs.length))
 |0,_=>by simp[qI,sm]
 |k+1,h=>by
  have ih:=IG f (xs:=xs) k Om;rw[jm0 (show k<xs.length by omega)] at ih;rw[K7];split
  .rename_i he;rw[ih];unfold nx at he;rw[he.1,he.2]
  .rw[Qz,ih];simp only[sm,nx];omega
theorem Pv(f:Int->Int->Int)(xs:List (Int×Int)):sm (λe:Leg=>f e.ax e.ay-f e.bx e.b_y) (Jh xs)=0:=by
 rw[Jh,IG f _ (jlL _),jnD];omega
theorem jaT(f:Int->Int->Int)(rs:List jI):∀k,sm (λe:Leg=>f e.ax e.ay-f e.bx e.b_y) (qx rs k)=0
 |0=>rfl
 |k+1=>by
  rw[qx,Qz,jaT f rs k,Pv];rfl
structure Fine (es:List Leg):Prop where
 ok:∀e∈es,qK e
 ne:∀e∈es,lA e≠lB e
 close:∀f:Int->Int->Int,sm (λe:Leg=>f e.ax e.ay-f e.bx e.b_y) es=0
def Td(es:List Leg)(p:Leg):Prop:=p.ay=p.b_y->∀e∈es,qh e≠p->¬(kU (2*e.ax) (2*e.ay) (2*e.bx) (2*e.b_y) (kS p) (QY p)=0/\(min (2*e.ax) (2*e.bx)<=kS p/\kS p<=max (2*e.ax) (2*e.bx))/\min (2*e.ay) (2*e.b_y)<=QY p/\QY p<=max (2*e.ay) (2*e.b_y))
def Sw(es:List Leg)(p:Leg):Int:=sm (λe=>sg e*(if qh e=p then 0 else Ff p (qh e))) es
theorem jfH{p:Leg}(hf:Fine es)(hc:Td es p)(hp:¬vv (lB p) (lA p))(hne:lA p≠lB p):
  Q5 es p=⟨p,qd es p,Sw es p+qd es p,Sw es p⟩:=by
 have d0:Sw es p=sm (λe=>if qh e=p then 0 else(if p.ay=p.b_y then kk (Xp (ko true e)) (-(QY p)) (kS p) else kk (ko true e) (kS p) (QY p))) es:=by
  refine JC λe _=>?_
  split
  .simp
  .unfold Ff;split
   .exact jim _ _ _
   .exact jha _ _ _
 unfold Q5;by_cases hl:p.ay=p.b_y
 .rw[if_pos hl];simp only[if_pos hl] at d0;have hlt:p.ax<p.bx:=by
   unfold vv lA lB at hp;unfold lA lB at hne;simp only[ne_eq,Prod.mk.injEq,not_and] at hp hne;omega
  have key:Qw es p-Sw es p=qd es p:=by
   rw[d0];unfold Qw;rw[<-Ud];have e1:sm (λe:Leg=>(if qh e=p then 0 else kk (ko true e) (kS p) (QY p))-(if qh e=p then 0 else kk (Xp (ko true e)) (-(QY p)) (kS p))) es
     =sm (λe:Leg=>(qu (2*e.ax) (2*e.ay) (kS p) (QY p)-qu (2*e.bx) (2*e.b_y) (kS p) (QY p))+(if qh e=p then sg e else 0)) es:=by
    refine JC λe he=>?_
    split
    .rename_i hn;have hq1:qu (2*p.ax) (2*p.ay) (kS p) (QY p)=0:=by unfold qu kS;rw[if_neg Om]
     have hq2:qu (2*p.bx) (2*p.b_y) (kS p) (QY p)=1:=by unfold qu kS QY;rw[if_pos Om]
     rcases(OI hp hne).1 hn with rfl|rfl
     .rw[jbf hp,hq1,hq2];rfl
     .rw[jfW hp hne];simp only[qW];rw[hq1,hq2];rfl
    .rename_i hn;have:=jgd (e:=ko true e) (hc hl e he hn)
     simp only[ko,if_true] at this⊢;rw[this];omega
   rw[e1,UF,hf.close λx y=>qu (2*x) (2*y) (kS p) (QY p)];unfold qd;omega
  rw[show Qw es p=Sw es p+qd es p by omega,show Sw es p+qd es p-qd es p=Sw es p by omega]
 .rw[if_neg hl];simp only[if_neg hl] at d0;have:Sw es p=Qw es p:=d0
  rw[this]
theorem zJ(hne:lA e≠lB e):qh (qW e)=qh e:=by
 unfold qh;rcases yU (lA e) (lB e) with h|h|h
 .rw[if_pos (show vv (lB (qW e)) (lA (qW e)) from h),if_neg λk=>kX _ (VQ h k)];rfl
 .exact absurd h hne
 .rw[if_pos h,if_neg (show¬vv (lB (qW e)) (lA (qW e)) from λk=>kX _ (VQ (show vv (lA e) (lB e) from k) h))]
theorem xU(e:Leg):kS (qh e)=e.ax+e.bx/\QY (qh e)=e.ay+e.b_y/\((qh e).ay=(qh e).b_y↔e.ay=e.b_y):=by
 unfold qh kS QY;split
 .simp only[qW];omega
 .exact⟨rfl,rfl,Iff.rfl⟩
theorem jj0(hne:lA e≠lB e):lA (qh e)≠lB (qh e):=by
 unfold qh;split
 .exact λh=>hne h.symm
 .exact hne
theorem Iq(h:e∈es):∃i,i<es.length/\lg es i=e:=by
 obtain⟨i,hi,rfl⟩:=jmq h;exact⟨i,hi,(uu hi).symm⟩
theorem jfe{m:List Leg}{l:List Nt}(hl:l=Qf false es [])(hr:jbJ m)(hm:∀q,q∈m↔∃e∈es,q=qh e):l.map (·.e)=Q3 m:=by
 have ha:GE l:=by rw[hl];exact Wl List.Pairwise.nil
 refine GH (jnx.2 ha) (F3 hr) λq=>?_
 rw[xJ,hm,jlR,hl];rw[show(∃a∈Qf false es [],a.e=q)↔_ from Wm];simp
def Frag(hot:List Pn)(a b h h':Pn):Prop:=∃V u u':Int,0<V/\(0<=u/\u<=u'/\u'<=V)/\wR a b h u V/\wR a b h' u' V/\∀k∈hot,k≠h->k≠h'->O6 a b k V u u'
theorem PD{f d lo:Int}(hm:0<m):Z6 f d lo (u*m) (v*m)↔Z6 f d lo u v:=by
 have e1:lo*(v*m)=lo*v*m:=by grind
 have e2:f*(v*m)+u*m*d=(f*v+u*d)*m:=by grind
 have e3:(lo+2)*(v*m)=(lo+2)*v*m:=by grind
 unfold Z6;rw[e1,e2,e3];constructor
 .rintro⟨h1,h2⟩;exact⟨jmk h1 hm,jmm h2 Om⟩
 .rintro⟨h1,h2⟩;exact⟨jlO h1 Om,jl6 h2 hm⟩
theorem zy{p:Pn}(hm:0<m):wR a b p (u*m) (v*m)↔wR a b p u v:=by
 unfold wR;rw[PD hm,PD hm]
theorem C3{k:Pn}{V:Int}(hm:0<m)(h:O6 a b k V u u'):O6 a b k (V*m) (u*m) (u'*m):=λt v hv h1 h2=>by
 refine h t v hv ?_ ?_
 .have e1:u*m*v=u*v*m:=by grind
  have e2:t*(V*m)=t*V*m:=by grind
  rw[e1,e2] at h1;exact jmk h1 hm
 .have e1:u'*m*v=u'*v*m:=by grind
  have e2:t*(V*m)=t*V*m:=by grind
  rw[e1,e2] at h2;exact jmk h2 hm
theorem Frag.scale{h:Pn}{V:Int}(hm:0<m)(hV:0<V)(hu:0<=u/\u<=u'/\u'<=V)(h1:wR a b h u V)(h2:wR a b h' u' V)(h3:∀k∈hot,k≠h->k≠h'->O6 a b k V u u'):
  0<V*m/\(0<=u*m/\u*m<=u'*m/\u'*m<=V*m)/\wR a b h (u*m) (V*m)/\wR a b h' (u'*m) (V*m)/\∀k∈hot,k≠h->k≠h'->O6 a b k (V*m) (u*m) (u'*m):=
 ⟨jmj hV hm,⟨jl2 hu.1 Om,jlO hu.2.1 Om,jlO hu.2.2 Om⟩,(zy hm).2 h1,(zy hm).2 h2,λk a1 a2 a3=>C3 hm (h3 k a1 a2 a3)⟩
theorem jbb(a b c d:Pn)(V w w' t:Int):tn (sc c d w V) (sc c d w' V) (sc a b t V)=4*(w'-w)*(V*tn c d a+t*(tn c d b-tn c d a)):=by
 simp only[sc,tn,kU];grind
theorem jfo{A B V D p q:Int}(hu:0<=u/\u<=u'/\u'<=V)(hD:0<=D)(hp:p=D*(V*A+u*(B-A)))(hq:q=D*(V*A+u'*(B-A)))(h:(p<0/\0<q)\/(0<p/\q<0)):(A<0/\0<B)\/(0<A/\B<0):=by
 have e1:V*A+u*(B-A)=(V-u)*A+u*B:=by grind
 have e2:V*A+u'*(B-A)=(V-u')*A+u'*B:=by grind
 rw[e1] at hp;rw[e2] at hq;have s1:=Kp hp
 have s2:=Kp hq;have k:¬(0<=A/\0<=B):=λ⟨g1,g2⟩=>by
  have m1:=jl2 (show 0<=V-u by omega) g1;have m2:=jl2 hu.1 g2
  have m3:=jl2 (show 0<=V-u' by omega) g1;have m4:=jl2 (show 0<=u' by omega) g2
  omega
 have k':¬(A<=0/\B<=0):=λ⟨g1,g2⟩=>by
  have m1:=jnj (show 0<=V-u by omega) g1;have m2:=jnj hu.1 g2
  have m3:=jnj (show 0<=V-u' by omega) g1;have m4:=jnj (show 0<=u' by omega) g2
  omega
 omega
theorem Ev{V w w':Int}(hV:0<V)(hu:0<=u/\u<=u'/\u'<=V)(hw:0<=w/\w<=w'/\w'<=V)(hs:qC (sc a b u V) (sc a b u' V) (sc c d w V) (sc c d w' V)=true):
  qC a b c d=true/\∃t t' v:Int,0<v/\(u*v<=t*V/\t*V<=u'*v)/\(w*v<=t'*V/\t'*V<=w'*v)/\sc a b t v=sc c d t' v:=by
 obtain⟨h1,h2⟩:=vU.1 hs;have hd:=ST (sc a b u V) (sc a b u' V) (sc c d w V) (sc c d w' V)
 refine⟨vU.2 ⟨?_,?_⟩,?_⟩
 .exact jfo hw Om (jbb c d a b V u u' w) (jbb c d a b V u u' w') h1
 .exact jfo hu Om (jbb a b c d V w w' u) (jbb a b c d V w w' u') h2
 ·
  have i1:∀q1 q2:Int,(sc a b (u*q2-u'*q1) (V*(q2-q1)))=(q2*(sc a b u V).1-q1*(sc a b u' V).1,q2*(sc a b u V).2-q1*(sc a b u' V).2):=λq1 q2=>by
   apply Prod.ext<;>(simp only[sc];grind)
  have i2:∀p1 p2:Int,(sc c d (w'*p1-w*p2) (V*(p1-p2)))=(p1*(sc c d w' V).1-p2*(sc c d w V).1,p1*(sc c d w' V).2-p2*(sc c d w V).2):=λp1 p2=>by
   apply Prod.ext<;>(simp only[sc];grind)
  have j1:∀X X' Y Y':Pn,tn Y Y' X'*X.1-tn Y Y' X*X'.1=tn X X' Y*Y'.1-tn X X' Y'*Y.1:=λX X' Y Y'=>by simp only[tn,kU];grind
  have j2:∀X X' Y Y':Pn,tn Y Y' X'*X.2-tn Y Y' X*X'.2=tn X X' Y*Y'.2-tn X X' Y'*Y.2:=λX X' Y Y'=>by simp only[tn,kU];grind
  have J1:=j1 (sc a b u V) (sc a b u' V) (sc c d w V) (sc c d w' V);have J2:=j2 (sc a b u V) (sc a b u' V) (sc c d w V) (sc c d w' V)
  generalize tn (sc a b u V) (sc a b u' V) (sc c d w V)=p1 at*;generalize tn (sc a b u V) (sc a b u' V) (sc c d w' V)=p2 at*;generalize tn (sc c d w V) (sc c d w' V) (sc a b u V)=q1 at*;generalize tn (sc c d w V) (sc c d w' V) (sc a b u' V)=q2 at*;rcases h2 with⟨g1,g2⟩|⟨g1,g2⟩
  .refine⟨u*q2-u'*q1,w'*p1-w*p2,V*(q2-q1),jmj hV Om,?_,?_,?_⟩
   .have e1:u*(V*(q2-q1))=(u*q2-u*q1)*V:=by grind
    have e2:u'*(V*(q2-q1))=(u'*q2-u'*q1)*V:=by grind
    rw[e1,e2];have m1:u*q2<=u'*q2:=jlO hu.2.1 Om
    have m2:u'*q1<=u*q1:=jnb hu.2.1 Om;exact⟨jlO Om Om,jlO Om Om⟩
   .have e0:q2-q1=p1-p2:=by omega
    rw[e0];have e1:w*(V*(p1-p2))=(w*p1-w*p2)*V:=by grind
    have e2:w'*(V*(p1-p2))=(w'*p1-w'*p2)*V:=by grind
    rw[e1,e2];have m1:w*p1<=w'*p1:=jlO hw.2.1 Om
    have m2:w'*p2<=w*p2:=jnb hw.2.1 Om;exact⟨jlO Om Om,jlO Om Om⟩
   .rw[i1,show q2-q1=p1-p2 by omega,i2,J1,J2]
  .have i1':=i1 (-q1) (-q2);have i2':=i2 (-p1) (-p2)
   refine⟨u* -q2-u'* -q1,w'* -p1-w* -p2,V*(-q2- -q1),jmj hV Om,?_,?_,?_⟩
   .have e1:u*(V*(-q2- -q1))=(u* -q2-u* -q1)*V:=by grind
    have e2:u'*(V*(-q2- -q1))=(u'* -q2-u'* -q1)*V:=by grind
    rw[e1,e2];have m1:u* -q2<=u'* -q2:=jlO hu.2.1 Om
    have m2:u'* -q1<=u* -q1:=jnb hu.2.1 Om;exact⟨jlO Om Om,jlO Om Om⟩
   .have e0: -q2- -q1= -p1- -p2:=by omega
    rw[e0];have e1:w*(V*(-p1- -p2))=(w* -p1-w* -p2)*V:=by grind
    have e2:w'*(V*(-p1- -p2))=(w'* -p1-w'* -p2)*V:=by grind
    rw[e1,e2];have m1:w* -p1<=w'* -p1:=jlO hw.2.1 Om
    have m2:w'* -p2<=w* -p2:=jnb hw.2.1 Om;exact⟨jlO Om Om,jlO Om Om⟩
   .have n:∀x y:Int,-x*y= -(x*y):=λx y=>jnz ..
    rw[i1 (-q1) (-q2),show-q2- -q1= -p1- -p2 by omega,i2 (-p1) (-p2)];simp only[n];apply Prod.ext
    .simp only;omega
    .simp only;omega
def Ti(hot:List Pn)(a b c d:Pn):Prop:=qC a b c d=true->∃k∈hot,∀t t' v:Int,0<v->sc a b t v=sc c d t' v->wR a b k t v
theorem IY{h g g':Pn}(hs:qC h h' g g'=true):h≠h'/\g≠g'/\g≠h/\g≠h'/\g'≠h/\g'≠h':=by
 obtain⟨h1,h2⟩:=vU.1 hs;have z1:∀p q:Pn,tn p p q=0:=λp q=>by simp only[tn,kU];grind
 have z2:∀p q:Pn,tn p q p=0:=λp q=>by simp only[tn,kU];grind
 have z3:∀p q:Pn,tn p q q=0:=λp q=>by simp only[tn,kU];grind
 refine⟨?_,?_,?_,?_,?_,?_⟩<;>rintro rfl<;>simp[z1,z2,z3] at h1 h2
theorem CE{h g g':Pn}(F:Frag hot a b h h')(G:Frag hot c d g g')(mh:h∈hot)(mh':h'∈hot)(mg:g∈hot)(mg':g'∈hot)(hc:Ti hot a b c d):qC h h' g g'≠true:=λhs=>by
 obtain⟨n1,n2,n3,n4,n5,n6⟩:=IY hs;obtain⟨V,u,u',hV,hu,i1,i2,i3⟩:=F;obtain⟨W,w,w',hW,hw,j1,j2,j3⟩:=G;obtain⟨pV,qu,k1,k2,k3⟩:=Frag.scale hW hV hu i1 i2 i3;obtain⟨pW,qw,l1,l2,l3⟩:=Frag.scale hV hW hw j1 j2 j3;rw[jmn W V] at pW qw l1 l2 l3;generalize V*W=U at*;generalize u*W=x at*;generalize u'*W=x' at*;generalize w*V=y at*;generalize w'*V=y' at*;refine jfi pV qu qw k1 k2 l1 l2 n1 n2 (k3 g mg n3 n4) (k3 g' mg' n5 n6) (l3 h mh (Ne.symm n3) (Ne.symm n5)) (l3 h' mh' (Ne.symm n4) (Ne.symm n6)) ?_ hs;intro hss;obtain⟨s1,t,t',v,hv,s2,s3,s4⟩:=Ev pV qu qw hss;obtain⟨k,mk,hk⟩:=hc s1;have p1:=hk t t' v hv s4
 have p2:wR c d k t' v:=by rw[Vw,<-s4];exact Vw.1 p1
 by_cases e1:k=g
 .subst e1;exact k3 k mk n3 n4 t v hv s2.1 s2.2 p1
 .by_cases e2:k=g'
  .subst e2;exact k3 k mk n5 n6 t v hv s2.1 s2.2 p1
  .exact l3 k mk e1 e2 t' v hv s3.1 s3.2 p2
theorem BS{s x:Sp}(hs:0<s.ld)(hx:0<x.ld)(hv:0<v)(h:Zw x s=false)(hl:lowOk x u v):lowOk s u v:=by
 have hns:¬(x.ln*s.ld<s.ln*x.ld\/(x.ln*s.ld=s.ln*x.ld/\x.lc=true/\s.lc=false)):=λh'=>by
  have:=HU.2 h';rw[h] at this;cases this
 have hle:s.ln*x.ld<=x.ln*s.ld:=jmS.1 λh'=>hns (.inl h')
 by_cases g:x.ln*v<u*x.ld
 .exact .inl (vj hx hs hv hle g)
 .obtain⟨g1,g2⟩:=hl.resolve_left g;by_cases k:s.ln*x.ld<x.ln*s.ld
  .exact .inl (wD hx hs hv k Om)
  .have l1:=vG (a:=s.ln) (b:=s.ld) (c:=x.ln) (d:=x.ld) (e:=u) (f:=v) hx hs hv Om Om;have l2:=vG (a:=u) (b:=v) (c:=x.ln) (d:=x.ld) (e:=s.ln) (f:=s.ld) hx hv hs Om Om
   refine .inr ⟨by omega,?_⟩;cases hc:s.lc with
   |true=>rfl
   |false=>exact absurd (.inr ⟨by omega,g2,hc⟩) hns
theorem Lv{s:Sp}{v':Int}(hs:0<s.hd)(hv:0<v)(hv':0<v')(hle:u*v'<=u'*v)(h:highOk s u' v'):highOk s u v:=by
 rcases h with h|⟨h,hc⟩
 .exact .inl (vj hv' hv hs hle h)
 .by_cases k:u*v'<u'*v
  .exact .inl (wD hv' hv hs k Om)
  .have l1:=vG (a:=u) (b:=v) (c:=u') (d:=v') (e:=s.hn) (f:=s.hd) hv' hv hs Om Om;have l2:=vG (a:=s.hn) (b:=s.hd) (c:=u') (d:=v') (e:=u) (f:=v) hv' hs hv Om Om
   exact .inr ⟨by omega,hc⟩
theorem jfB{f' d' k:Int}(hv:0<v)(h0:0<=u)(h1:u<=v)(h:Z6 (2*f') (2*(d'-f')) (2*k-1) u v):min f' d'-1<=k/\k<=max f' d'+1:=by
 obtain⟨g1,g2⟩:=h;have e:2*f'*v+u*(2*(d'-f'))=2*(f'*(v-u)+d'*u):=by grind
 rw[e] at g1 g2;have a1:min f' d'*(v-u)<=f'*(v-u):=jlO Om Om
 have a2:min f' d'*u<=d'*u:=jlO Om h0;have a3:f'*(v-u)<=max f' d'*(v-u):=jlO Om Om
 have a4:d'*u<=max f' d'*u:=jlO Om h0;have b1:min f' d'*(v-u)+min f' d'*u=min f' d'*v:=by grind
 have b2:max f' d'*(v-u)+max f' d'*u=max f' d'*v:=by grind
 have c1:(2*k-1)*v<=(2*max f' d')*v:=by
  have:2*max f' d'*v=2*(max f' d'*v):=by grind
  omega
 have c2:(2*min f' d')*v<(2*k-1+2)*v:=by
  have:2*min f' d'*v=2*(min f' d'*v):=by grind
  omega
 have d1:=jmk c1 hv;have d2:=jmm c2 Om
 omega
theorem Pg{k:Pn}(hv:0<v)(h0:0<=u)(h1:u<=v)(h:wR a b k u v):K9 a b k=true:=by
 have x:=jfB hv h0 h1 h.1;have y:=jfB hv h0 h1 h.2
 exact YX (GO x.1 x.2) (ZT y.1 y.2) (OD hv h0 h1 h)
theorem yQ{p:Pn}(h:Vx a b p=true):∃u v:Int,0<v/\Ys (J5 a b p) u v/\0<=u/\u<=v/\wR a b p u v:=by
 have hn:Vh (J5 a b p)=true:=by have h':=h;unfold Vx G1 at h';simp only[jlK] at h';exact h'.2
 obtain⟨u,v,hv,hm⟩:=OG (vn a b p) hn;have:=(vo hv h).1 hm
 exact⟨u,v,hv,hm,this.1.1,this.1.2,this.2⟩
theorem jhj{l1 l2:List Pn}{h:Pn}(hnd:hot.Nodup)(hp:qJ a b hot=l1++h::h'::l2):Frag hot a b h h':=by
 have hs:ya (vc a b) (qJ a b hot):=by rw[Wd];exact xz a b hot
 have hd:=uY (a:=a) (b:=b) hnd;have hi:∀p∈qJ a b hot,Vx a b p=true:=λp hp=>xV (KV.1 hp).2
 have mh:h∈qJ a b hot:=by rw[hp];simp
 have mh':h'∈qJ a b hot:=by rw[hp];simp
 have hmem:∀k,k∈hot->K9 a b k=true->k≠h->k≠h'->k∈l1\/k∈l2:=λk k1 k2 k3 k4=>by
  have:=KV.2 ⟨k1,k2⟩;rw[hp] at this;simp only[jl0,jlP] at this;rcases this with h1|rfl|rfl|h1
  .exact .inl h1
  .exact absurd rfl k3
  .exact absurd rfl k4
  .exact .inr h1
 rw[hp] at hs hd;have hs1:=jm9.1 hs
 have hs2:=jmc.1 hs1.2.1;have hs3:=jmc.1 hs2.2
 have hne:h≠h':=λe=>by
  have:=(List.nodup_append.1 hd).2.1;rw[e] at this;exact(jmY.1 this).1 (by simp)
 obtain⟨u0,v0,p0,m0,a0,b0,c0⟩:=yQ (hi h mh);obtain⟨u1,v1,p1,m1,a1,b1,c1⟩:=yQ (hi h' mh');have pos:=λp=>vn a b p
 have hle:u0*v1<=u1*v0:=jmS.1 λhlt=>by
  have lo:lowOk (J5 a b h) u1 v1:=BS (pos h).1 (pos h').1 p1 (hs2.1 h' (by simp)) m1.1;have hi':highOk (J5 a b h) u1 v1:=Lv (pos h).2 p1 p0 Om m0.2
  exact hne (U5 p1 ((vo p1 (hi h mh)).1 ⟨lo,hi'⟩).2 c1)
 refine⟨v0*v1,u0*v1,u1*v0,jmj p0 p1,⟨jl2 a0 Om,hle,?_⟩,?_,?_,?_⟩
 .rw[jmn v0 v1];exact jlO b1 Om
 .exact(zy p1).2 c0
 .rw[jmn v0 v1];exact(zy p0).2 c1
 .intro k k1 k2 k3 t v hv t1 t2 hin;have t1':u0*v<=t*v0:=by
   have e1:u0*v1*v=u0*v*v1:=by grind
   have e2:t*(v0*v1)=t*v0*v1:=by grind
   rw[e1,e2] at t1;exact jmk t1 p1
  have t2':t*v1<=u1*v:=by
   have e1:u1*v0*v=u1*v*v0:=by grind
   have e2:t*(v0*v1)=t*v1*v0:=by grind
   rw[e1,e2] at t2;exact jmk t2 p0
  have g0:0<=t:=by
   refine jmS.1 λhn=>?_
   have:=jl2 a0 (show 0<=v by omega);have:=jmD hn p0
   omega
  have g1:t<=v:=by
   have e1:u1*v<=v1*v:=jlO b1 Om;have e2:t*v1<=v*v1:=by rw[jmn v v1];omega
   exact jmk e2 p1
  have hw:=Pg hv g0 g1 hin;have hik:=xV hw
  have mk:=(vo hv hik).2 ⟨⟨g0,g1⟩,hin⟩;rcases hmem k k1 hw k2 k3 with c|c
  .have lo:lowOk (J5 a b k) u0 v0:=BS (pos k).1 (pos h).1 p0 (hs1.2.2 k c h (by simp)) m0.1;have hi':highOk (J5 a b k) u0 v0:=Lv (pos k).2 p0 hv t1' mk.2
   exact k2 (U5 p0 ((vo p0 hik).1 ⟨lo,hi'⟩).2 c0)
  .have lo:lowOk (J5 a b h') t v:=BS (pos h').1 (pos k).1 hv (hs3.1 k c) mk.1;have hi':highOk (J5 a b h') t v:=Lv (pos h').2 hv p1 t2' m1.2
   exact k3 (U5 hv ((vo hv (hi h' mh')).1 ⟨lo,hi'⟩).2 hin).symm
end Go.Proofs.YtjbahemkhphndaaGreat
