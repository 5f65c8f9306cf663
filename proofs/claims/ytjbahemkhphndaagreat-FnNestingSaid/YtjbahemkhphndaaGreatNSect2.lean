import Derived.Test.YtjbahemkhphndaaGreatNSect
set_option linter.unusedVariables false
set_option linter.unusedSimpArgs false
namespace Go.Proofs.YtjbahemkhphndaaGreat
open Go Go.RowKit
variable{E K:List Leg}{a b v:Pn}{e f p:Leg}
def GD(E:List Leg)(e:Leg):Int:=if qh e=e then(Q5 E e).left else(Q5 E (qh e)).right
def rsd(E:List Leg)(e:Leg):Int:=if qh e=e then(Q5 E e).right else(Q5 E (qh e)).left
def wtE(E:List Leg)(e:Leg):Int:=if qh e=e then qd E e else-qd E (qh e)
theorem jaI(E:List Leg)(p:Leg):(Q5 E p).left=(Q5 E p).right+qd E p:=by
 unfold Q5;split
 .show Qw E p=Qw E p-qd E p+qd E p;omega
 .rfl
theorem jax(E:List Leg)(e:Leg):GD E e=rsd E e+wtE E e:=by
 have h1:=jaI E e;have h2:=jaI E (qh e)
 unfold GD rsd wtE;split<;>omega
theorem Sc(h:Keys K E)(hp:p∈K):qh p=p/\qh (qW p)=p:=⟨(YT (h.ord p hp)).1,(YT (h.ord p hp)).2.1⟩
theorem Ei(h:lA p≠lB p):qW p≠p:=λk=>h (by have:=congrArg lB k;exact this)
theorem uN(h:Keys K E)(hp:p∈K):lA p≠lB p:=λk=>by
 have:=h.ord p hp;rw[k] at this;unfold vv at this;omega
theorem zG(h:Keys K E)(hp:p∈K):GD E p=(Q5 E p).left/\GD E (qW p)=(Q5 E p).right/\rsd E p=(Q5 E p).right/\rsd E (qW p)=(Q5 E p).left:=by
 obtain⟨k1,k2⟩:=Sc h hp;have k3:¬qh (qW p)=qW p:=by rw[k2];exact λk=>Ei (uN h hp) k.symm
 unfold GD rsd;rw[if_pos k1,if_neg k3,if_pos k1,if_neg k3,k2];exact⟨rfl,rfl,rfl,rfl⟩
theorem D1(h:Keys K E)(hp:p∈K):wtE E p=qd E p/\wtE E (qW p)= -qd E p:=by
 obtain⟨k1,k2⟩:=Sc h hp;have k3:¬qh (qW p)=qW p:=by rw[k2];exact λk=>Ei (uN h hp) k.symm
 unfold wtE;rw[if_pos k1,if_neg k3,k2];exact⟨rfl,rfl⟩
theorem kb :e=qh e\/e=qW (qh e):=by
 rcases C6 e with k|k
 .exact .inl k.symm
 .exact .inr (by rw[k];rfl)
theorem uD(k:e=qW (qh e)):lA (qh e)=lB e:=(congrArg lB k).symm
theorem Yc(k:e=qW (qh e)):lB (qh e)=lA e:=(congrArg lA k).symm
theorem jjP(h:Keys K E)(he:qh e∈K)(hB:lB e=v):GD E e=blV K E v+nbS K E v (lA e):=by
 obtain⟨k1,k2,_,_⟩:=zG h he;rcases kb (e:=e) with k|k
 .rw[<-k] at k1;rw[k1,ji6 h (k▸he) hB]
 .rw[<-k] at k2;have hA:lA (qh e)=v:=(uD k).trans hB
  have hd:lA e=lB (qh e):=(Yc k).symm;rw[k2,ji5 h he hA,hd]
theorem jio(h:Keys K E)(he:qh e∈K)(hA:lA e=v):rsd E e=blV K E v+nbS K E v (lB e):=by
 obtain⟨_,_,k1,k2⟩:=zG h he;rcases kb (e:=e) with k|k
 .rw[<-k] at k1;rw[k1,ji5 h (k▸he) hA]
 .rw[<-k] at k2;have hB:lB (qh e)=v:=(Yc k).trans hA
  have hd:lB e=lA (qh e):=(uD k).symm;rw[k2,ji6 h he hB,hd]
theorem yJ(v p q:Pn):yb v q p<0↔0<yb v p q:=by
 rw[ze,zf];have:=Xd v p q
 omega
theorem xG(v p:Pn):¬yb v p p<0:=by
 rw[ze,yC];have:(p.1-v.1)*(p.2-v.2)-(p.2-v.2)*(p.1-v.1)=0:=by grind
 omega
theorem Bb{p q:Pn}(hp:p≠v)(hq:q≠v)(h:¬Q9 v p q):yb v p q<0\/0<yb v p q:=by
 obtain⟨P,uP,kP⟩:=Yx hp;obtain⟨Q,uQ,kQ⟩:=Yx hq;have n:=xb uP uQ kP kQ h
 have d:=W1 kP kQ;rw[ze,zf];have b1:=yO v p
 have b2:=yO v q;omega
def RH(v:Pn)(e:Leg):Bool:=decide (lA e=v)
def zx(v:Pn)(e:Leg):Bool:=decide (lB e=v)
theorem jfS(h:Keys K E)(v:Pn):sN K E (RH v)=sN K E (zx v):=by
 have hr:=x5 h.nd (λk=>ix (RH v k)-ix (zx v k)) E h.all;have hc:=h.close (λx y=>ix (decide ((x,y)=v)))
 have e1:sm (λe=>sg e*(ix (RH v (qh e))-ix (zx v (qh e)))) E=sm (λe:Leg=>ix (decide ((e.ax,e.ay)=v))-ix (decide ((e.bx,e.b_y)=v))) E:=JC λe _=>by
  unfold sg qh;split
  .show-1*(ix (decide (lB e=v))-ix (decide (lA e=v)))=ix (decide (lA e=v))-ix (decide (lB e=v));omega
  .show 1*(ix (decide (lA e=v))-ix (decide (lB e=v)))=ix (decide (lA e=v))-ix (decide (lB e=v));omega
 rw[e1,hc] at hr;have e2:sm (λk=>qd E k*(ix (RH v k)-ix (zx v k))) K=sN K E (RH v)-sN K E (zx v):=by
  unfold sN;rw[<-Ud];exact JC λe _=>by grind
 rw[e2] at hr;omega
structure Fan (K:List Leg) (v:Pn):Prop where
 oo:∀p∈K,∀q∈K,lA p=v->lA q=v->p≠q->¬Q9 v (lB p) (lB q)
 oi:∀p∈K,∀q∈K,lA p=v->lB q=v->¬Q9 v (lB p) (lA q)
 ii:∀p∈K,∀q∈K,lB p=v->lB q=v->p≠q->¬Q9 v (lA p) (lA q)
theorem Dw{p q:Pn}(h:Q9 v p q):Q9 v q p:=⟨by have:=Xd v p q;have:=h.1;omega,by have:=h.2;rw[jmn (q.1-v.1),jmn (q.2-v.2)];exact this⟩
theorem Fan.io(h:Fan K v){q:Leg}(hp:p∈K)(hq:q∈K)(h1:lB p=v)(h2:lA q=v):¬Q9 v (lA p) (lB q):=λk=>h.oi q hq p hp h2 h1 (Dw k)
theorem Fan.out(h:Fan K v)(hp:p∈K)(hf:qh f∈K)(hA:lA f=v)(hne:p≠qh f):(lA p=v->¬Q9 v (lB p) (lB f))/\(lB p=v->¬Q9 v (lA p) (lB f)):=by
 rcases kb (e:=f) with k|k
 .rw[<-k] at hne hf;exact⟨λh1=>h.oo p hp f hf h1 hA hne,λh1=>h.io hp hf h1 hA⟩
 .have hB:lB (qh f)=v:=(Yc k).trans hA;have hd:lB f=lA (qh f):=(uD k).symm
  rw[hd];exact⟨λh1=>h.oi p hp _ hf h1 hB,λh1=>h.ii p hp _ hf h1 hB hne⟩
structure Soon (K:List Leg) (v a b:Pn):Prop where
 o:∀k∈K,lA k=v->Ue v a (lB k) b=false
 i:∀k∈K,lB k=v->Ue v a (lA k) b=false
theorem OH{c:Pn}(h:Ue v a c b=false):¬(yb v c a<0/\¬yb v b a<0)/\¬((yb v c a<0↔yb v b a<0)/\0<yb v c b):=by
 have:=zU v a c b;rw[h] at this;simp only[jmF,false_iff,not_or] at this;exact this
theorem PM{c:Pn}(hc:c≠v)(hb:b≠v)(ha:a≠v)(hn:Ue v a c b=false)(hd:¬Q9 v c b)(hba:yb v b a<0):yb v c a<0↔yb v c b<0:=by
 obtain⟨n1,n2⟩:=OH hn;have t:=Bb hc hb hd
 constructor
 .intro k;refine t.resolve_right λk2=>n2 ⟨⟨λ_=>hba,λ_=>k⟩,k2⟩
 .intro k;have:=Tw ha hb hc ((yJ v a b).1 hba) ((yJ v b c).1 k)
  exact(yJ v a c).2 this
theorem OZ{c:Pn}(hc:c≠v)(hb:b≠v)(hn:Ue v a c b=false)(hd:¬Q9 v c b)(hba:¬yb v b a<0):¬yb v c a<0/\yb v c b<0:=by
 obtain⟨n1,n2⟩:=OH hn;have h1:¬yb v c a<0:=λk=>n1 ⟨k,hba⟩
 exact⟨h1,(Bb hc hb hd).resolve_right λk2=>n2 ⟨⟨λk=>(h1 k).elim,λk=>(hba k).elim⟩,k2⟩⟩
theorem jgE(h:Keys K E)(hf:qh f∈K)(hA:lA f=v)(ha:a≠v)(hs:Soon K v a (lB f))(hF:Fan K v)(hd:¬Q9 v (lB f) a):
  nbS K E v a=nbS K E v (lB f)+wtE E f:=by
 have hkn:=uN h hf;have hb:lB f≠v:=λk=>by
  rcases kb (e:=f) with c|c
  .rw[<-c] at hkn;exact hkn (hA.trans k.symm)
  .have e1:lB (qh f)=v:=(Yc c).trans hA;have e2:lA (qh f)=v:=(uD c).trans k
   exact hkn (e2.trans e1.symm)
 obtain⟨w1,w2⟩:=D1 h hf;have outer:∀k∈K,(lA k=v->lB k≠v)/\(lB k=v->lA k≠v):=λk hk=>⟨λc d=>uN h hk (c.trans d.symm),λc d=>uN h hk (d.trans c.symm)⟩
 have c0:=jfS h v;have selfA:sN K E (λk=>RH v k&&decide (k=qh f))-sN K E (λk=>zx v k&&decide (k=qh f))=wtE E f:=by
  rcases kb (e:=f) with c|c
  .have e1:sN K E (λk=>RH v k&&decide (k=qh f))=qd E (qh f):=WO h.nd hf λk _=>by
    rw[jl8,jlK,decide_eq_true_iff,decide_eq_true_iff];exact⟨λq=>q.2.symm,λq=>⟨by unfold RH;rw[decide_eq_true_iff,<-q,<-c];exact hA,q.symm⟩⟩
   have e2:sN K E (λk=>zx v k&&decide (k=qh f))=0:=XF λk _=>by
    rw[jmR,ne_eq,jlK,decide_eq_true_iff];rintro⟨q1,q2⟩;unfold zx at q1;rw[decide_eq_true_iff,q2,<-c] at q1;exact hb q1
   rw[e1,e2,<-w1,<-c];omega
  .have e1:sN K E (λk=>zx v k&&decide (k=qh f))=qd E (qh f):=WO h.nd hf λk _=>by
    rw[jl8,jlK,decide_eq_true_iff,decide_eq_true_iff];exact⟨λq=>q.2.symm,λq=>⟨by unfold zx;rw[decide_eq_true_iff,<-q];exact(Yc c).trans hA,q.symm⟩⟩
   have e2:sN K E (λk=>RH v k&&decide (k=qh f))=0:=XF λk _=>by
    rw[jmR,ne_eq,jlK,decide_eq_true_iff];rintro⟨q1,q2⟩;unfold RH at q1;rw[decide_eq_true_iff,q2] at q1;exact hb ((uD c).symm.trans q1)
   rw[e1,e2];rw[<-c] at w2;omega
 have selfEnd:(lA (qh f)=v->lB (qh f)=lB f)/\(lB (qh f)=v->lA (qh f)=lB f):=by
  rcases kb (e:=f) with c|c
  .rw[<-c];exact⟨λ_=>rfl,λq=>(hb q).elim⟩
  .exact⟨λq=>(hb ((uD c).symm.trans q)).elim,λ_=>uD c⟩
 unfold nbS;by_cases hba:yb v (lB f) a<0
 .have sA:sN K E (TC v a)=sN K E (TC v (lB f))+sN K E (λk=>RH v k&&decide (k=qh f)):=Ww λk hk=>by
   unfold TC RH;by_cases hv:lA k=v
   .rw[decide_eq_true hv,jlZ,jlZ,jlZ];by_cases hkf:k=qh f
    .subst hkf;rw[selfEnd.1 hv,decide_eq_true hba,decide_eq_false (xG v _),decide_eq_true rfl];rfl
    .have:=PM ((outer k hk).1 hv) hb ha (hs.o k hk hv) ((hF.out hk hf hA hkf).1 hv) hba;rw[decide_eq_false hkf];rw[show decide (yb v (lB k) a<0)=decide (yb v (lB k) (lB f)<0) from by rw[jl8,decide_eq_true_iff,decide_eq_true_iff];exact this];show _=_+0
     omega
   .rw[decide_eq_false hv];rfl
  have sB:sN K E (P8 v a)=sN K E (P8 v (lB f))+sN K E (λk=>zx v k&&decide (k=qh f)):=Ww λk hk=>by
   unfold P8 zx;by_cases hv:lB k=v
   .rw[decide_eq_true hv,jlZ,jlZ,jlZ];by_cases hkf:k=qh f
    .subst hkf;rw[selfEnd.2 hv,decide_eq_true hba,decide_eq_false (xG v _),decide_eq_true rfl];rfl
    .have:=PM ((outer k hk).2 hv) hb ha (hs.i k hk hv) ((hF.out hk hf hA hkf).2 hv) hba;rw[decide_eq_false hkf];rw[show decide (yb v (lA k) a<0)=decide (yb v (lA k) (lB f)<0) from by rw[jl8,decide_eq_true_iff,decide_eq_true_iff];exact this];show _=_+0
     omega
   .rw[decide_eq_false hv];rfl
  rw[sA,sB];omega
 .have zA:sN K E (TC v a)=0:=XF λk hk=>by
   unfold TC;by_cases hv:lA k=v
   .rw[decide_eq_true hv,jlZ];refine decide_eq_false ?_;by_cases hkf:k=qh f
    .subst hkf;rw[selfEnd.1 hv];exact hba
    .exact(OZ ((outer k hk).1 hv) hb (hs.o k hk hv) ((hF.out hk hf hA hkf).1 hv) hba).1
   .rw[decide_eq_false hv];rfl
  have zB:sN K E (P8 v a)=0:=XF λk hk=>by
   unfold P8;by_cases hv:lB k=v
   .rw[decide_eq_true hv,jlZ];refine decide_eq_false ?_;by_cases hkf:k=qh f
    .subst hkf;rw[selfEnd.2 hv];exact hba
    .exact(OZ ((outer k hk).2 hv) hb (hs.i k hk hv) ((hF.out hk hf hA hkf).2 hv) hba).1
   .rw[decide_eq_false hv];rfl
  have sA:sN K E (RH v)=sN K E (TC v (lB f))+sN K E (λk=>RH v k&&decide (k=qh f)):=Ww λk hk=>by
   unfold TC RH;by_cases hv:lA k=v
   .rw[decide_eq_true hv,jlZ,jlZ];by_cases hkf:k=qh f
    .subst hkf;rw[selfEnd.1 hv,decide_eq_false (xG v _),decide_eq_true rfl];rfl
    .rw[decide_eq_false hkf,decide_eq_true (OZ ((outer k hk).1 hv) hb (hs.o k hk hv) ((hF.out hk hf hA hkf).1 hv) hba).2];rfl
   .rw[decide_eq_false hv];rfl
  have sB:sN K E (zx v)=sN K E (P8 v (lB f))+sN K E (λk=>zx v k&&decide (k=qh f)):=Ww λk hk=>by
   unfold P8 zx;by_cases hv:lB k=v
   .rw[decide_eq_true hv,jlZ,jlZ];by_cases hkf:k=qh f
    .subst hkf;rw[selfEnd.2 hv,decide_eq_false (xG v _),decide_eq_true rfl];rfl
    .rw[decide_eq_false hkf,decide_eq_true (OZ ((outer k hk).2 hv) hb (hs.i k hk hv) ((hF.out hk hf hA hkf).2 hv) hba).2];rfl
   .rw[decide_eq_false hv];rfl
  rw[zA,zB];omega
theorem Tu(h:Keys K E)(he:qh e∈K)(hf:qh f∈K)(hB:lB e=v)(hA:lA f=v)(hs:Soon K v (lA e) (lB f))(hF:Fan K v)(hd:¬Q9 v (lB f) (lA e))(ha:lA e≠v):GD E f=GD E e:=by
 rw[jax,jjP h he hB,jio h hf hA,jgE h hf hA ha hs hF hd];omega
structure Bdr (K B:List Leg):Prop where
 key:Keys K B
 dir:∀k∈K,k∈B\/qW k∈B
 sd:∀e∈B,GD B e=1/\rsd B e=0
 fan:∀v,Fan K v
theorem jiu(v a b:Pn):Ue v a b b=false:=by
 cases h:Ue v a b b with
 |false=>rfl
 |true=>have:=DC h;rw[h] at this;cases this
theorem jf2(v a b:Pn):Ue v a a b=false:=by
 rw[jmR];intro h;rw[zU] at h;rcases h with h|h
 .exact xG v a h.1
 .have:=(yJ v a b).2 h.2;exact xG v a (h.1.2 this)
theorem jey{P1 P2 P3 P4:Prop}(a:¬(P1/\¬P3))(b:¬((P1↔P3)/\P4))(c:¬(P2/\¬P4))(d:¬((P2↔P4)/\P3))(t:(P1/\¬P2)\/(P2/\¬P1)):False:=by
 by_cases h1:P1<;>by_cases h2:P2<;>by_cases h3:P3<;>by_cases h4:P4<;>simp_all
def Wu(v:Pn)(k:Leg):Pn:=if lA k=v then lB k else lA k
section
variable{K B:List Leg}{e:Leg}
theorem Bdr.neB(h:Bdr K B)(he:e∈B):lA e≠lB e:=by
 have:=uN h.key (h.key.all e he);rcases kb (e:=e) with c|c
 .rw[<-c] at this;exact this
 .exact λk=>this ((uD c).trans (k.symm.trans (Yc c).symm))
theorem Bdr.wt(h:Bdr K B)(he:e∈B):wtE B e=1:=by
 have:=jax B e;obtain⟨h1,h2⟩:=h.sd e he;omega
theorem Bdr.next(h:Bdr K B)(he:e∈B):∃f∈B,lA f=lB e/\Soon K (lB e) (lA e) (lB f):=by
 obtain⟨v,hv⟩:∃v,v=lB e:=⟨_,rfl⟩;obtain⟨a,ha⟩:∃a,a=lA e:=⟨_,rfl⟩;rw[<-hv,<-ha];have hkn:=h.neB he
 have hav:a≠v:=by rw[ha,hv];exact hkn
 have heK:=h.key.all e he;have outer:∀k∈K,(lA k=v\/lB k=v)->Wu v k≠v:=λk hk ho=>by
  unfold Wu;have:=uN h.key hk
  split
  .rename_i c;exact λd=>this (c.trans d.symm)
  .rename_i c;exact c
 obtain⟨C,hC⟩:∃C,C=K.filter λk=>(decide (lA k=v)||decide (lB k=v)) && !decide (k=qh e):=⟨_,rfl⟩
 have memC:∀k,k∈C↔k∈K/\(lA k=v\/lB k=v)/\k≠qh e:=λk=>by
  rw[hC,jmx,jlK,jml,decide_eq_true_iff,decide_eq_true_iff,jmo,decide_eq_false_iff_not]
 have apart:∀p∈C,∀q∈C,p≠q->¬Q9 v (Wu v p) (Wu v q):=λp hp q hq hn=>by
  obtain⟨p1,p2,p3⟩:=(memC p).1 hp;obtain⟨q1,q2,q3⟩:=(memC q).1 hq;have hF:=h.fan v
  unfold Wu;by_cases c1:lA p=v<;>by_cases c2:lA q=v
  .rw[if_pos c1,if_pos c2];exact hF.oo p p1 q q1 c1 c2 hn
  .rw[if_pos c1,if_neg c2];exact hF.oi p p1 q q1 c1 (q2.resolve_left c2)
  .rw[if_neg c1,if_pos c2];exact hF.io p1 q1 (p2.resolve_left c1) c2
  .rw[if_neg c1,if_neg c2];exact hF.ii p p1 q q1 (p2.resolve_left c1) (q2.resolve_left c2) hn
 have hne:C≠[]:=λk0=>by
  have no:∀k∈K,lA k=v\/lB k=v->k=qh e:=λk hk hh=>Decidable.byContradiction λc=>by
   have:=(memC k).2 ⟨hk,hh,c⟩;rw[k0] at this;cases this
  have hs:=jfS h.key v;have w:=h.wt he
  rcases kb (e:=e) with c|c
  .have e1:sN K B (zx v)=qd B (qh e):=WO h.key.nd heK λk hk=>by
    unfold zx;rw[jl8,decide_eq_true_iff,decide_eq_true_iff];exact⟨λq=>(no k hk (.inr q)).symm,λq=>by rw[<-q,<-c];exact hv.symm⟩
   have e2:sN K B (RH v)=0:=XF λk hk=>by
    unfold RH;refine decide_eq_false λq=>?_
    have:=no k hk (.inl q);rw[this,<-c] at q;exact hav (ha.trans q)
   have:=(D1 h.key heK).1;rw[<-c] at this e1;omega
  .have e1:sN K B (RH v)=qd B (qh e):=WO h.key.nd heK λk hk=>by
    unfold RH;rw[jl8,decide_eq_true_iff,decide_eq_true_iff];exact⟨λq=>(no k hk (.inl q)).symm,λq=>by rw[<-q];exact(uD c).trans hv.symm⟩
   have e2:sN K B (zx v)=0:=XF λk hk=>by
    unfold zx;refine decide_eq_false λq=>?_
    have:=no k hk (.inr q);rw[this] at q;exact hav (ha.trans ((Yc c).symm.trans q))
   have:=(D1 h.key heK).2;rw[<-c] at this;omega
 obtain⟨m,hm,hmin⟩:=LD (λp q=>Ue v a (Wu v p) (Wu v q)=true) C hne
  (λp hp q hq hn=>L9 (outer p ((memC p).1 hp).1 ((memC p).1 hp).2.1) (outer q ((memC q).1 hq).1 ((memC q).1 hq).2.1) (apart p hp q hq hn))
  (λp hp q hq r hr h1 h2=>IU (outer p ((memC p).1 hp).1 ((memC p).1 hp).2.1) (outer q ((memC q).1 hq).1 ((memC q).1 hq).2.1) (outer r ((memC r).1 hr).1 ((memC r).1 hr).2.1) h1 h2)
 obtain⟨m1,m2,m3⟩:=(memC m).1 hm;have eOut:Wu v (qh e)=a:=by
  unfold Wu;rcases kb (e:=e) with c|c
  .rw[<-c,if_neg (by rw[<-ha];exact hav)];exact ha.symm
  .have:lA (qh e)=v:=(uD c).trans hv.symm;rw[if_pos this,ha];exact Yc c
 have soon0:∀k∈K,(lA k=v\/lB k=v)->Ue v a (Wu v k) (Wu v m)=false:=λk hk ho=>by
  by_cases c:k=qh e
  .rw[c,eOut];exact jf2 v a _
  .by_cases c2:k=m
   .rw[c2];exact jiu v a _
   .exact DC (hmin k ((memC k).2 ⟨hk,ho,c⟩) c2)
 have soon:Soon K v a (Wu v m):=⟨λk hk hA=>by
   have:=soon0 k hk (.inl hA);rw[show Wu v k=lB k from if_pos hA] at this;exact this,λk hk hB=>by
   have:=soon0 k hk (.inr hB);rw[show Wu v k=lA k from if_neg λc=>uN h.key hk (c.trans hB.symm)] at this;exact this⟩
 have hg:∃g,qh g=m/\lA g=v/\lB g=Wu v m/\(g=m\/g=qW m):=by
  obtain⟨n1,n2⟩:=Sc h.key m1;by_cases c:lA m=v
  .exact⟨m,n1,c,(if_pos c).symm,.inl rfl⟩
  .exact⟨qW m,n2,m2.resolve_left c,(if_neg c).symm,.inr rfl⟩
 obtain⟨g,g1,g2,g3,g4⟩:=hg;rw[<-g3] at soon;have hdir:¬Q9 v (lB g) a:=λc=>by
  have hF:=h.fan v;have:=hF.out heK (f:=g) (by rw[g1];exact m1) g2 (by rw[g1];exact λq=>m3 q.symm)
  rcases kb (e:=e) with d|d
  .have hB:lB (qh e)=v:=by rw[<-d];exact hv.symm
   exact this.2 hB (by rw[<-d,<-ha];exact Dw c)
  .have hA:lA (qh e)=v:=(uD d).trans hv.symm;have e2:lB (qh e)=a:=(Yc d).trans ha.symm
   exact this.1 hA (by rw[e2];exact Dw c)
 have hl:=Tu h.key heK (f:=g) (by rw[g1];exact m1) hv.symm g2 (by rw[<-ha];exact soon) (h.fan v) (by rw[<-ha];exact hdir) (by rw[<-ha];exact hav);rw[(h.sd e he).1] at hl;have hgB:g∈B\/qW g∈B:=by
  rcases g4 with c|c
  .rw[c];exact h.dir m m1
  .rw[c];exact(h.dir m m1).symm
 rcases hgB with c|c
 .exact⟨g,c,g2,soon⟩
 .exfalso;have s:=(h.sd _ c).2
  have:rsd B (qW g)=GD B g:=by
   obtain⟨k1,k2,k3,k4⟩:=zG h.key m1 (E:=B);rcases g4 with d|d
   .rw[d,k4,k1]
   .rw[d,k2];exact k3
  omega
theorem Bdr.inj(h:Bdr K B){e':Leg}(he:e∈B)(he':e'∈B)(hv:lB e'=lB e)(hf:f∈B)(hA:lA f=lB e)(h1:Soon K (lB e) (lA e) (lB f))(h2:Soon K (lB e) (lA e') (lB f)):e=e':=by
 refine Decidable.byContradiction λhne=>?_
 obtain⟨v,hvv⟩:∃v,v=lB e:=⟨_,rfl⟩;rw[<-hvv] at h1 h2 hv hA;have n1:=h.neB he
 have n2:=h.neB he';have n3:=h.neB hf
 have key2:∀x∈B,∀b,Soon K v b (lB f)->lB x=v->Ue v b (lA x) (lB f)=false:=λx hx b hb hB=>by
  have hk:=h.key.all x hx;rcases kb (e:=x) with c|c
  .rw[<-c] at hk;exact hb.i x hk hB
  .have h1:lA (qh x)=v:=(uD c).trans hB;have h2:lA x=lB (qh x):=(Yc c).symm
   rw[h2];exact hb.o _ hk h1
 have s1:=OH (key2 e' he' _ h1 hv);have s2:=OH (key2 e he _ h2 hvv.symm)
 have hd:¬Q9 v (lA e) (lA e'):=by
  have hF:=h.fan v;have hk:=h.key.all e he
  have hk':=h.key.all e' he';have hn:qh e≠qh e':=λc=>by
   rcases kb (e:=e) with d|d<;>rcases kb (e:=e') with d'|d'
   .exact hne (d.trans (c.trans d'.symm))
   .have a1:lB (qh e')=v:=by rw[<-c,<-d];exact hvv.symm
    have a2:lA (qh e')=v:=(uD d').trans hv;exact uN h.key hk' (a2.trans a1.symm)
   .have a1:lA (qh e)=v:=(uD d).trans hvv.symm;have a2:lB (qh e)=v:=by rw[c,<-d'];exact hv
    exact uN h.key hk (a1.trans a2.symm)
   .exact hne (d.trans ((congrArg qW c).trans d'.symm))
  have e1:(lA (qh e)=v/\lB (qh e)=lA e)\/(lB (qh e)=v/\lA (qh e)=lA e):=by
   rcases kb (e:=e) with d|d
   .exact .inr (by rw[<-d];exact⟨hvv.symm,rfl⟩)
   .exact .inl ⟨(uD d).trans hvv.symm,Yc d⟩
  have e2:(lA (qh e')=v/\lB (qh e')=lA e')\/(lB (qh e')=v/\lA (qh e')=lA e'):=by
   rcases kb (e:=e') with d|d
   .exact .inr (by rw[<-d];exact⟨hv,rfl⟩)
   .exact .inl ⟨(uD d).trans hv,Yc d⟩
  rcases e1 with⟨a1,a2⟩|⟨a1,a2⟩<;>rcases e2 with⟨b1,b2⟩|⟨b1,b2⟩<;>rw[<-a2,<-b2]
  .exact hF.oo _ hk _ hk' a1 b1 hn
  .exact hF.oi _ hk _ hk' a1 b1
  .exact hF.io hk hk' a1 b1
  .exact hF.ii _ hk _ hk' a1 b1 hn
 have t:=Bb (by rw[hvv];exact n1) (by rw[<-hv];exact n2) hd;have u1:=yJ v (lA e) (lA e')
 have u2:=yJ v (lA e') (lA e);have u3:=yJ v (lA e) (lB f)
 have u4:=yJ v (lA e') (lB f);exact jey s1.1 (λk=>s1.2 ⟨k.1,u4.1 k.2⟩) s2.1 (λk=>s2.2 ⟨k.1,u3.1 k.2⟩) (t.elim (λk=>.inr ⟨k,λk1=>by have:=u1.1 k1;omega⟩) (λk=>.inl ⟨u1.2 k,by omega⟩))
end
def GR(s:Nat->Nat)(z:Nat):List Nat->Prop
 |[]=>False
 |[a]=>s a=z
 |a::b::l=>s a=b/\GR s z (b::l)
theorem jbZ{s:Nat->Nat}{z a:Nat}{L:List Nat}(h:GR s z L)(hh:L.head?=some (s a)):GR s z (a::L):=by
 cases L with
 |nil=>exact h.elim
 |cons b l=>exact⟨by simpa using hh.symm,h⟩
structure Sig (B:List Leg) (s:Nat->Nat):Prop where
 lt:∀i,i<B.length->s i<B.length
 at_:∀i,i<B.length->lA (lg B (s i))=lB (lg B i)
 min:∀i,i<B.length->∀m,m<B.length->lA (lg B m)=lB (lg B i)->Ue (lB (lg B i)) (lA (lg B i)) (lB (lg B m)) (lB (lg B (s i)))=false
 inj:∀i j,i<B.length->j<B.length->s i=s j->i=j
structure RunS (B:List Leg) (s:Nat->Nat) (first:Nat) (u:List Bool) (a:Nat):Prop where
 len:u.length=B.length
 la:a<B.length
 lf:first<B.length
 free:WR u a=false
 fst:a=first\/WR u first=true
 back:∀i,i<B.length->(WR u (s i)=true\/s i=a)->s i≠first->WR u i=true
 fwd:∀i,i<B.length->WR u i=true->WR u (s i)=true\/s i=a
theorem ja7{B:List Leg}{s:Nat->Nat}(hT:TrOk B)(hS:Sig B s){first:Nat}:∀(f:Nat) (u:List Bool) (a:Nat) (ps:List Pn),RunS B s first u a->WS u<=f->
  ∃L,(VV B first f u a ps).2=ps++L.map (λi=>lA (lg B i))/\GR s first L/\L.head?=some a/\(∀i∈L,i<B.length)/\(∀i,i<B.length->(WR (VV B first f u a ps).1 i=true↔WR (VV B first f u a ps).1 (s i)=true))/\(VV B first f u a ps).1.length=B.length
 |0,u,a,ps,hR,hc=>by
  have:=zu (show a<u.length by rw[hR.len];exact hR.la) hR.free;omega
 |f+1,u,a,ps,hR,hc=>by
  have hlu:a<u.length:=by rw[hR.len];exact hR.la
  have hcs:=zu hlu hR.free;have us:∀k,WR (u.set a true) k=true↔k=a\/WR u k=true:=λk=>by rw[Xe hlu,jml,decide_eq_true_iff]
  have hlj:=hS.lt a hR.la;have hAj:=hS.at_ a hR.la
  have hmin:=hS.min a hR.la;have hja:s a≠a:=λk=>hT.ne a hR.la (by rw[k] at hAj;exact hAj)
  have hfu:WR (u.set a true) first=true:=(us first).2 (hR.fst.imp Eq.symm id)
  have oC:=Ec hT hR.la (S:=vF B (u.set a true) (lB (lg B a))) (λk hk=>by simp only[vF,jlK,decide_eq_true_eq] at hk;exact hk.2);have sC:=HL oC (jlL _)
  by_cases hju:WR u (s a)=true
  ·
   have hjf:s a=first:=Decidable.byContradiction λk=>by
    have:=hR.back a hR.la (.inl hju) k;rw[hR.free] at this;cases this
   have hstep:Uv B (u.set a true) first a=none:=by
    unfold Uv;have e1:lB (lg B a)=lA (lg B first):=by rw[<-hAj,hjf]
    have e2:yf B (u.set a true) a first=true:=by
     unfold yf Zk;cases hn:VW (vF B (u.set a true) (lB (lg B a))) (ltS B (lB (lg B a)) (lA (lg B a))) B.length with
     |none=>rfl
     |some m=>
      have hm:=sC.2 m hn;have hm2:=hm.mem
      simp only[vF,jlK,jmo,decide_eq_true_eq] at hm2;have hmf:m≠first:=λk=>by rw[k,hfu] at hm2;cases hm2.1
      have a1:=hT.apart m first hm.le hR.lf hmf (by rw[hm2.2,e1])
      rw[hm2.2] at a1;have n1:lB (lg B m)≠lB (lg B a):=λk=>hT.ne m hm.le (by rw[hm2.2,k])
      have n2:lB (lg B first)≠lB (lg B a):=λk=>hT.ne first hR.lf (by rw[<-e1,k])
      have hz:=hmin m hm.le hm2.2;rw[hjf] at hz;rcases L9 (f:=lA (lg B a)) n1 n2 a1 with k|k
      .rw[hz] at k;cases k
      .exact k
    rw[decide_eq_true e1,e2];rfl
   refine⟨[a],?_,hjf,J,λi hi=>by rw[jlM.1 hi];exact hR.la,?_,?_⟩
   .rw[VV,hstep];rfl
   .intro i hi;rw[VV,hstep];show WR (u.set a true) i=true↔WR (u.set a true) (s i)=true
    rw[us,us];constructor
    .rintro(k|k)
     .rw[k,hjf];exact(us first).1 hfu
     .exact(hR.fwd i hi k).symm
    .intro k;by_cases c:s i=first
     .exact .inl (hS.inj i a hi hR.la (c.trans hjf.symm))
     .exact .inr (hR.back i hi k.symm c)
   .rw[VV,hstep];simp[hR.len]
  ·
   have hju2:WR (u.set a true) (s a)=false:=by
    rw[jmR];intro k;rcases(us _).1 k with k|k
    .exact hja k
    .exact hju k
   have hcj:vF B (u.set a true) (lB (lg B a)) (s a)=true:=by simp[vF,hju2,hAj]
   have hnext:Zk B (u.set a true) a=some (s a):=by
    unfold Zk;cases hn:VW (vF B (u.set a true) (lB (lg B a))) (ltS B (lB (lg B a)) (lA (lg B a))) B.length with
    |none=>have:=sC.1 hn _ hlj;rw[hcj] at this;cases this
    |some m=>
     have hm:=sC.2 m hn;by_cases k:s a=m
     .rw[k]
     .have a1:=hm.min (s a) hlj hcj k;have hm2:=hm.mem
      simp only[vF,jlK,jmo,decide_eq_true_eq] at hm2;have hz:=hmin m hm.le hm2.2
      unfold ltS at a1;rw[hz] at a1;cases a1
   have hstep:Uv B (u.set a true) first a=some (s a):=by
    unfold Uv yf;rw[hnext];by_cases e1:lB (lg B a)=lA (lg B first)
    .have hz:=hmin first hR.lf e1.symm
     rw[decide_eq_true e1,jlZ];show(if Ue (lB (lg B a)) (lA (lg B a)) (lB (lg B first)) (lB (lg B (s a)))=true then none else some (s a))=some (s a)
     rw[hz];rfl
    .rw[decide_eq_false e1,jmg];rfl
   have hR2:RunS B s first (u.set a true) (s a):=by
    refine⟨by rw[jmV];exact hR.len,hlj,hR.lf,hju2,.inr hfu,λi hi hh hn=>?_,λi hi hh=>?_⟩
    .rw[us];rcases hh with k|k
     .exact .inr (hR.back i hi ((us _).1 k).symm hn)
     .exact .inl (hS.inj i a hi hR.la k)
    .rcases(us _).1 hh with k|k
     .exact .inr (by rw[k])
     .exact .inl ((us _).2 (hR.fwd i hi k).symm)
   obtain⟨L,l1,l2,l3,l4,l5,l6⟩:=ja7 hT hS f (u.set a true) (s a) (ps++[lA (lg B a)]) hR2 Om;refine⟨a::L,?_,jbZ l2 l3,J,λi hi=>?_,?_,?_⟩
   .rw[VV,hstep];show(VV B first f (u.set a true) (s a) (ps++[lA (lg B a)])).2=_
    rw[l1];simp
   .rcases jlP.1 hi with k|k
    .rw[k];exact hR.la
    .exact l4 i k
   .rw[VV,hstep];exact l5
   .rw[VV,hstep];exact l6
theorem jgn{B:List Leg}{s:Nat->Nat}(hT:TrOk B)(hS:Sig B s):∀k,k<=B.length->
  (∀r∈(kN B k).2,∃L z,r=L.map (λi=>lA (lg B i))/\GR s z L/\L.head?=some z/\∀i∈L,i<B.length)/\(∀i,i<B.length->(WR (kN B k).1 i=true↔WR (kN B k).1 (s i)=true))
 |0,_=>⟨λr hr=>(by cases hr),λi _=>by
   show WR (List.replicate B.length false) i=true↔WR (List.replicate B.length false) (s i)=true;rw[H4,H4]⟩
 |k+1,hk=>by
  obtain⟨i1,i2⟩:=jgn hT hS k Om;unfold kN;split
  .exact⟨i1,i2⟩
  .rename_i hu;obtain⟨L,l1,l2,l3,l4,l5,l6⟩:=ja7 hT hS (first:=k) (WS (kN B k).1) (kN B k).1 k [] ⟨yD k,by omega,by omega,by simpa using hu,.inl rfl,λi hi hh hn=>(i2 i hi).2 (hh.resolve_right hn),λi hi hh=>.inl ((i2 i hi).1 hh)⟩ (jlL _)
   refine⟨λr hr=>?_,l5⟩;rcases jl0.1 hr with c|c
   .exact i1 r c
   .rw[jlM.1 c];exact⟨L,k,by rw[l1];simp,l2,l3,l4⟩
theorem jcV(h:b≠v):Q9 v b b:=by
 refine⟨by rw[yC];grind,?_⟩;have h1:b.1≠v.1\/b.2≠v.2:=by
  by_cases c:b.1=v.1
  .exact .inr λd=>h (Prod.ext c d)
  .exact .inl c
 have a1:=XG (a:=b.1-v.1) (b:=b.1-v.1) rfl;have a2:=XG (a:=b.2-v.2) (b:=b.2-v.2) rfl
 generalize (b.1-v.1)*(b.1-v.1)=x at*;generalize (b.2-v.2)*(b.2-v.2)=y at*;omega
theorem Bdr.sig{B:List Leg}(h:Bdr K B)(hT:TrOk B):∃s,Sig B s/\∀i,i<B.length->Soon K (lB (lg B i)) (lA (lg B i)) (lB (lg B (s i))):=by
 have hmem:∀i,i<B.length->lg B i∈B:=λi hi=>by
  have:lg B i=B[i]:=by simp[lg,List.getD,hi]
  rw[this];exact jlY hi
 have hex:∀i,∃j,i<B.length->j<B.length/\lA (lg B j)=lB (lg B i)/\Soon K (lB (lg B i)) (lA (lg B i)) (lB (lg B j)):=λi=>by
  by_cases hi:i<B.length
  .obtain⟨f,f1,f2,f3⟩:=h.next (hmem i hi);obtain⟨j,hj,e⟩:=jmq f1;have:lg B j=f:=by rw[<-e];simp[lg,List.getD,hj]
   exact⟨j,λ_=>⟨hj,by rw[this];exact f2,by rw[this];exact f3⟩⟩
  .exact⟨0,λk=>absurd k hi⟩
 obtain⟨s,hs⟩:=Classical.axiomOfChoice hex;have nd:∀i j,i<B.length->j<B.length->lg B i=lg B j->i=j:=λi j hi hj e=>by
  refine Decidable.byContradiction λhn=>?_
  have:=hT.apart i j hi hj hn (by rw[e]);rw[<-e] at this;exact this (jcV (hT.ne i hi).symm)
 refine⟨s,⟨λi hi=>(hs i hi).1,λi hi=>(hs i hi).2.1,λi hi m hm hA=>?_,λi j hi hj e=>?_⟩,λi hi=>(hs i hi).2.2⟩
 .have hk:=h.key.all _ (hmem m hm);rcases kb (e:=lg B m) with c|c
  .exact(hs i hi).2.2.o _ (c▸hk) hA
  .have h1:lB (qh (lg B m))=lB (lg B i):=(Yc c).trans hA;have h2:lB (lg B m)=lA (qh (lg B m)):=(uD c).symm
   rw[h2];exact(hs i hi).2.2.i _ hk h1
 .obtain⟨a1,a2,a3⟩:=hs i hi;obtain⟨b1,b2,b3⟩:=hs j hj;rw[<-e] at b2 b3;have hv:lB (lg B j)=lB (lg B i):=b2.symm.trans a2
  rw[hv] at b3;exact nd i j hi hj (h.inj (hmem i hi) (hmem j hj) hv (hmem _ a1) a2 a3 b3)
end Go.Proofs.YtjbahemkhphndaaGreat
