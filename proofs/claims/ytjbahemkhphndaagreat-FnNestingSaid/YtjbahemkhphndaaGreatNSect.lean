import Derived.Test.YtjbahemkhphndaaGreatNRay2
set_option linter.unusedVariables false
set_option linter.unusedSimpArgs false
namespace Go.Proofs.YtjbahemkhphndaaGreat
open Go Go.RowKit
variable{E K:List Leg}{d v:Pn}{e p:Leg}{q:Leg->Bool}
def upK(v:Pn)(e:Leg):Bool:=decide (e.ay<e.b_y) &&decide (lA e=v)
def T0(v:Pn)(e:Leg):Bool:=decide (e.ay<e.b_y) &&decide (lB e=v)
def hrK(v:Pn)(e:Leg):Bool:=decide (e.ay=e.b_y) &&decide (lA e=v)
def hlK(v:Pn)(e:Leg):Bool:=decide (e.ay=e.b_y) &&decide (lB e=v)
def sN(K E:List Leg)(q:Leg->Bool):Int:=sm (λe=>qd E e*ix (q e)) K
theorem jkp{r:Leg->Bool}(h:∀e∈K,q e=r e):sN K E q=sN K E r:=JC λe he=>by rw[h e he]
theorem Ww{r s:Leg->Bool}(h:∀e∈K,ix (q e)=ix (r e)+ix (s e)):sN K E q=sN K E r+sN K E s:=by
 unfold sN;rw[<-UF];exact JC λe he=>by rw[h e he];grind
theorem XF(h:∀e∈K,q e=false):sN K E q=0:=by
 unfold sN;rw[<-Q0 K];exact JC λe he=>by rw[h e he];simp[ix]
theorem WO(hn:K.Nodup)(hp:p∈K)(h:∀e∈K,q e=decide (p=e)):sN K E q=qd E p:=by
 unfold sN;rw[<-L6 hn hp (qd E)];refine JC λe he=>?_
 rw[h e he];by_cases k:p=e
 .rw[decide_eq_true k,if_pos k];simp[ix]
 .rw[decide_eq_false k,if_neg k];simp[ix]
theorem Mm(K E:List Leg)(X Y W:Int)(s:Bool):FR (K.map tw) (qd (E.map tw)) X Y W s=sN K E (λe=>Xg X Y W s (tw e)):=by
 unfold FR sN;rw[<-WP,VC];exact JC λe _=>by rw[xD]
def abV(K E:List Leg)(v:Pn):Int:=sN K E (λe=>Xg (2*v.1) (2*v.2) (2*v.2) false (tw e))
def blV(K E:List Leg)(v:Pn):Int:=sN K E (λe=>Xg (2*v.1) (2*v.2) (2*v.2-1) false (tw e))
theorem DQ(p:Leg):(tw p).ax=2*p.ax/\(tw p).ay=2*p.ay/\(tw p).bx=2*p.bx/\(tw p).b_y=2*p.b_y:=⟨rfl,rfl,rfl,rfl⟩
theorem Bu(h:lA p=v):p.ax=v.1/\p.ay=v.2:=⟨congrArg Prod.fst h,congrArg Prod.snd h⟩
theorem Xx(h:lB p=v):p.bx=v.1/\p.b_y=v.2:=⟨congrArg Prod.fst h,congrArg Prod.snd h⟩
section
variable{K E:List Leg}{v:Pn}{e0:Leg}{p:Leg}
theorem jlk(h:Keys K E)(h0:e0∈K)(hv:lA e0=v\/lB e0=v)(hp:p∈K)(h1:p.ay<v.2)(h2:v.2<p.b_y)(hn:2*v.1*den (tw p)=num (tw p) (2*v.2)):False:=by
 obtain⟨c1,c2,c3,c4⟩:=DQ p;obtain⟨d1,d2,d3,d4⟩:=DQ e0;have hv':((tw e0).ax=2*v.1/\(tw e0).ay=2*v.2)\/((tw e0).bx=2*v.1/\(tw e0).b_y=2*v.2):=by
  rcases hv with k|k
  .have:=Bu k;omega
  .have:=Xx k;omega
 exact v6 h.net (UH h0) hv' (UH hp) Om Om hn.symm
theorem Ef(h:Keys K E)(h0:e0∈K)(hv:lA e0=v\/lB e0=v)(hp:p∈K)(hlt:p.ay<p.b_y):(QF (tw p) (2*v.2)=true/\2*v.1*den (tw p)=num (tw p) (2*v.2))↔lA p=v:=by
 obtain⟨c1,c2,c3,c4⟩:=DQ p;have de:0<den (tw p):=by unfold den;omega
 rw[qt];constructor
 .rintro⟨⟨k1,k2⟩,k3⟩;have k4:p.ay=v.2:=by
   rcases jm7 (show p.ay<=v.2 by omega) with c|c
   .exact(jlk h h0 hv hp c Om k3).elim
   .exact c
  rw[show(2*v.2:Int)=(tw p).ay by omega,xe] at k3;have:=jnF (jnw de) k3
  exact Prod.ext (by show p.ax=v.1;omega) k4
 .intro k;obtain⟨k1,k2⟩:=Bu k;refine⟨by omega,?_⟩;rw[show(2*v.2:Int)=(tw p).ay by omega,xe,show(2*v.1:Int)=(tw p).ax by omega]
theorem Eg(h:Keys K E)(h0:e0∈K)(hv:lA e0=v\/lB e0=v)(hp:p∈K)(hlt:p.ay<p.b_y):(QF (tw p) (2*v.2-1)=true/\2*v.1*den (tw p)=num (tw p) (2*v.2))↔lB p=v:=by
 obtain⟨c1,c2,c3,c4⟩:=DQ p;have de:0<den (tw p):=by unfold den;omega
 rw[qt];constructor
 .rintro⟨⟨k1,k2⟩,k3⟩;have k4:p.b_y=v.2:=by
   rcases jm7 (show v.2<=p.b_y by omega) with c|c
   .exact(jlk h h0 hv hp Om c k3).elim
   .exact c.symm
  rw[show(2*v.2:Int)=(tw p).b_y by omega,Zl] at k3;have:=jnF (jnw de) k3
  exact Prod.ext (by show p.bx=v.1;omega) k4
 .intro k;obtain⟨k1,k2⟩:=Xx k;refine⟨by omega,?_⟩;rw[show(2*v.2:Int)=(tw p).b_y by omega,Zl,show(2*v.1:Int)=(tw p).bx by omega]
theorem jgt(h:Keys K E)(h0:e0∈K)(hv:lA e0=v\/lB e0=v)(hp:p∈K):upK v p=(QF (tw p) (2*v.2) &&decide (2*v.1*den (tw p)=num (tw p) (2*v.2))):=by
 obtain⟨c1,c2,c3,c4⟩:=DQ p;rw[jl8,jlK,decide_eq_true_iff];unfold upK;rw[jlK,decide_eq_true_iff,decide_eq_true_iff];constructor
 .intro k;exact(Ef h h0 hv hp k.1).2 k.2
 .intro k;have:=qt.1 k.1
  have hlt:p.ay<p.b_y:=by omega
  exact⟨hlt,(Ef h h0 hv hp hlt).1 k⟩
theorem jee(h:Keys K E)(h0:e0∈K)(hv:lA e0=v\/lB e0=v)(hp:p∈K):T0 v p=(QF (tw p) (2*v.2-1) &&decide (2*v.1*den (tw p)=num (tw p) (2*v.2))):=by
 obtain⟨c1,c2,c3,c4⟩:=DQ p;rw[jl8,jlK,decide_eq_true_iff];unfold T0;rw[jlK,decide_eq_true_iff,decide_eq_true_iff];constructor
 .intro k;exact(Eg h h0 hv hp k.1).2 k.2
 .intro k;have:=qt.1 k.1
  have hlt:p.ay<p.b_y:=by omega
  exact⟨hlt,(Eg h h0 hv hp hlt).1 k⟩
end
theorem No(a:Bool)(x y:Int):ix (a&&decide (x<=y))=ix (a&&decide (x<y))+ix (a&&decide (x=y)):=by
 cases a with
 |false=>rfl
 |true=>
  simp only[jlZ,ix,decide_eq_true_eq,if_true]
  (repeat' split)<;>omega
section
variable{K E:List Leg}{v:Pn}{e0:Leg}
theorem jiN(h:Keys K E)(h0:e0∈K)(hv:lA e0=v\/lB e0=v):sN K E (λe=>Xg (2*v.1) (2*v.2) (2*v.2) true (tw e))=abV K E v+sN K E (upK v):=by
 refine Ww λe he=>?_
 rw[jgt h h0 hv he];unfold Xg;rw[if_pos rfl,if_neg Dc];exact No _ _ _
theorem jkH(h:Keys K E)(h0:e0∈K)(hv:lA e0=v\/lB e0=v):sN K E (λe=>Xg (2*v.1) (2*v.2) (2*v.2-1) true (tw e))=blV K E v+sN K E (T0 v):=by
 refine Ww λe he=>?_
 rw[jee h h0 hv he];unfold Xg;rw[if_pos rfl,if_neg Dc];exact No _ _ _
theorem jiR(h:Keys K E)(h0:e0∈K)(hv:lA e0=v\/lB e0=v):abV K E v-blV K E v=sN K E (hrK v):=by
 have:=h.cover h0 hv false;rw[Mm,Mm] at this;exact this
theorem jkN(h:Keys K E)(h0:e0∈K)(hv:lA e0=v\/lB e0=v):(abV K E v+sN K E (upK v))-(blV K E v+sN K E (T0 v))=sN K E (hlK v):=by
 have:=h.cover h0 hv true;rw[Mm,Mm,jiN h h0 hv,jkH h h0 hv] at this;exact this
end
theorem jea{X Y:Int}(h:X*den p=num p Y):K3 e p Y=(num e Y-X*den e)*den p:=by unfold K3;rw[<-h];grind
theorem jgs(e p:Leg):Uc (tw e) (tw p)=4*Uc e p:=by
 obtain⟨c1,c2,c3,c4⟩:=DQ p;obtain⟨d1,d2,d3,d4⟩:=DQ e;unfold Uc den;rw[c1,c2,c3,c4,d1,d2,d3,d4];grind
theorem C4{a b:Int}(hb:0<b):(0<a->0<a*b)/\(a=0->a*b=0)/\(a<0->a*b<0):=by
 refine⟨λh=>jmj h hb,λh=>by rw[h,jmz],λh=>?_⟩;have:=jmj (show 0< -a by omega) hb
 rw[jnz] at this;omega
section
variable{K E:List Leg}{v:Pn}{p:Leg}
theorem WI(h:Keys K E)(hp:p∈K){W:Int}(hW:QF (tw p) W=true):Qw E p=sN K E (λe=>QF (tw e) W&&wV (tw e) (tw p)):=by
 obtain⟨c1,c2,c3,c4⟩:=DQ p;have hw:=qt.1 hW
 have hl:p.ay<p.b_y:=by omega
 rw[h.out hp hl,zR h.net (UH hp) hW (qt.2 (by unfold QY;omega)),x7,<-WP,VC];exact JC λe _=>by rw[xD]
theorem jke(h:Keys K E)(hp:p∈K)(hlt:p.ay<p.b_y)(hA:lA p=v):Qw E p=abV K E v+sN K E (λe=>upK v e&&decide (0<Uc e p)):=by
 obtain⟨pa,pe⟩:=(Ef h hp (.inl hA) hp hlt).2 hA;rw[WI h hp pa];refine Ww λe he=>?_
 rw[jgt h hp (.inl hA) he];unfold Xg;rw[if_neg Dc];cases ha:QF (tw e) (2*v.2) with
 |false=>rfl
 |true=>
  have dp:0<den (tw p):=by have:=qt.1 pa;unfold den;omega
  have hd:=jea (e:=tw e) pe;obtain⟨s1,s2,s3⟩:=C4 (a:=num (tw e) (2*v.2)-2*v.1*den (tw e)) dp;rw[<-hd] at s1 s2 s3;have hs:=jgs e p
  have key:wV (tw e) (tw p)=true↔Ej (tw e) (tw p) (2*v.2):=by
   by_cases hep:e=p
   .subst hep;rw[UC];refine⟨λk=>(by cases k),λk=>?_⟩;have z1:K3 (tw e) (tw e) (2*v.2)=0:=by unfold K3;omega
    have z2:Uc e e=0:=by unfold Uc;omega
    unfold Ej at k;omega
   .exact uf (yE (h.sep e he p hp hep)) ha pa
  simp only[jlZ,ix,key,Ej,jlK,decide_eq_true_eq]
  (repeat' split)<;>omega
theorem jkb(h:Keys K E)(hp:p∈K)(hlt:p.ay<p.b_y)(hB:lB p=v):Qw E p=blV K E v+sN K E (λe=>T0 v e&&decide (Uc e p<0)):=by
 obtain⟨pa,pe⟩:=(Eg h hp (.inr hB) hp hlt).2 hB;rw[WI h hp pa];refine Ww λe he=>?_
 rw[jee h hp (.inr hB) he];unfold Xg;rw[if_neg Dc];cases ha:QF (tw e) (2*v.2-1) with
 |false=>rfl
 |true=>
  obtain⟨c1,c2,c3,c4⟩:=DQ p;obtain⟨d1,d2,d3,d4⟩:=DQ e;have ha2:=qt.1 ha
  have pa2:=qt.1 pa;have pv:=Xx hB
  have dp:0<den (tw p):=by unfold den;omega
  have de:0<den (tw e):=by unfold den;omega
  have hd:=jea (e:=tw e) pe;obtain⟨s1,s2,s3⟩:=C4 (a:=num (tw e) (2*v.2)-2*v.1*den (tw e)) dp;rw[<-hd] at s1 s2 s3;have hs:=jgs e p
  have e1:wE (tw e) (tw p)=2*v.2:=by unfold wE;omega
  have e2:Vy (tw e) (tw p)<2*v.2:=by unfold Vy;omega
  have hl:=Kf (tw e) (tw p) (2*v.2) (Vy (tw e) (tw p));obtain⟨t1,t2,t3⟩:=C4 (a:=Uc (tw e) (tw p)) (show 0<2*v.2-Vy (tw e) (tw p) by omega);have t4:Uc (tw e) (tw p)*(Vy (tw e) (tw p)-2*v.2)= -(Uc (tw e) (tw p)*(2*v.2-Vy (tw e) (tw p))):=by grind
  rw[t4] at hl;have key:wV (tw e) (tw p)=true↔0<K3 (tw e) (tw p) (2*v.2)\/(K3 (tw e) (tw p) (2*v.2)=0/\Uc (tw e) (tw p)<0):=by
   unfold wV;rw[decide_eq_true_iff,e1];by_cases hep:e=p
   .subst hep;have z1:∀Y,K3 (tw e) (tw e) Y=0:=λY=>by unfold K3;omega
    have z2:Uc e e=0:=by unfold Uc;omega
    rw[z1,z1];omega
   .have sd:=(yE (h.sep e he p hp hep)).side de dp (by rw[e1];exact e2);rw[e1] at sd;generalize Uc (tw e) (tw p)*(2*v.2-Vy (tw e) (tw p))=z at*;omega
  simp only[jlZ,ix,key,jlK,decide_eq_true_eq]
  (repeat' split)<;>omega
theorem jkd(h:Keys K E)(hp:p∈K)(hl:p.ay=p.b_y)(hA:lA p=v):Qw E p=abV K E v:=by
 obtain⟨k1,k2⟩:=Bu hA;have:=h.lev_out hp hl false (X:=2*p.ax) rfl
 rw[Mm,k1,k2] at this;exact this
theorem jkc(h:Keys K E)(hp:p∈K)(hl:p.ay=p.b_y)(hB:lB p=v):Qw E p=abV K E v+sN K E (upK v):=by
 obtain⟨k1,k2⟩:=Xx hB;have:=h.lev_out hp hl true (X:=2*p.bx) rfl
 rw[Mm,k1,hl,k2] at this;rw[this];exact jiN h hp (.inr hB)
theorem jjA(h:Keys K E)(hp:p∈K)(hlt:p.ay<p.b_y)(hB:lB p=v):sN K E (λe=>T0 v e&&decide (Uc e p=0))=qd E p:=by
 refine WO h.nd hp λe he=>?_
 rw[jl8,jlK,decide_eq_true_iff,decide_eq_true_iff];unfold T0;rw[jlK,decide_eq_true_iff,decide_eq_true_iff];constructor
 .rintro⟨⟨k1,k2⟩,k3⟩;refine Decidable.byContradiction λhne=>?_
  obtain⟨a1,a2⟩:=Xx k2;obtain⟨b1,b2⟩:=Xx hB;have de:0<den e:=by unfold den;omega
  have dp:0<den p:=by unfold den;omega
  have e1:wE e p=v.2:=by unfold wE;omega
  have e2:Vy e p<v.2:=by unfold Vy;omega
  have sd:=(h.sep e he p hp (Ne.symm hne)).side de dp (by rw[e1];exact e2);have z1:K3 e p v.2=0:=by
   have:K3 e p e.b_y=den e*(e.bx*den p-num p e.b_y):=E8 e p;rw[a2] at this;rw[this,<-b2,Zl,b1,a1];grind
  have z2:K3 e p (Vy e p)=0:=by rw[Kf e p v.2,z1,k3];omega
  rw[e1,z1,z2] at sd;omega
 .intro k;subst k;exact⟨⟨hlt,hB⟩,by unfold Uc;omega⟩
end
def TC(v d:Pn)(e:Leg):Bool:=decide (lA e=v) &&decide (yb v (lB e) d<0)
def P8(v d:Pn)(e:Leg):Bool:=decide (lB e=v) &&decide (yb v (lA e) d<0)
theorem RD(ho:e.ay<e.b_y\/(e.ay=e.b_y/\e.ax<e.bx))(hA:lA e=v):U4 v (lB e)=0:=by
 obtain⟨k1,k2⟩:=Bu hA;exact if_pos (by show e.b_y>v.2\/(e.b_y=v.2/\e.bx>v.1);omega)
theorem jad(ho:e.ay<e.b_y\/(e.ay=e.b_y/\e.ax<e.bx))(hB:lB e=v):U4 v (lA e)=1:=by
 obtain⟨k1,k2⟩:=Xx hB;exact if_neg (by show¬(e.ay>v.2\/(e.ay=v.2/\e.ax>v.1));omega)
theorem yC(v a b:Pn):tn v a b=(a.1-v.1)*(b.2-v.2)-(a.2-v.2)*(b.1-v.1):=by simp only[tn,kU]
theorem jdF(ho:e.ay<e.b_y\/(e.ay=e.b_y/\e.ax<e.bx))(hd:U4 v d=0):TC v d e=true↔lA e=v/\0<tn v (lB e) d:=by
 unfold TC;rw[jlK,decide_eq_true_iff,decide_eq_true_iff,ze,hd];refine⟨λk=>⟨k.1,?_⟩,λk=>⟨k.1,?_⟩⟩
 .have:=RD ho k.1;omega
 .have:=RD ho k.1;omega
theorem jjj(ho:e.ay<e.b_y\/(e.ay=e.b_y/\e.ax<e.bx))(hd:U4 v d=0):P8 v d e=false:=by
 rw[jmR];intro k;unfold P8 at k;rw[jlK,decide_eq_true_iff,decide_eq_true_iff,ze,hd] at k;have:=jad ho k.1
 omega
theorem jkJ(ho:e.ay<e.b_y\/(e.ay=e.b_y/\e.ax<e.bx))(hd:U4 v d=1):ix (TC v d e)=ix (hrK v e)+ix (upK v e):=by
 have hb:TC v d e=true↔lA e=v:=by
  unfold TC;rw[jlK,decide_eq_true_iff,decide_eq_true_iff,ze,hd];refine⟨λk=>k.1,λk=>⟨k,?_⟩⟩;have:=RD ho k
  omega
 simp only[ix,hb,hrK,upK,jlK,decide_eq_true_eq];by_cases k:lA e=v
 .simp only[k,true_and,and_true,if_true]
  (repeat' split)<;>omega
 .simp[k]
theorem jiO(ho:e.ay<e.b_y\/(e.ay=e.b_y/\e.ax<e.bx))(hd:U4 v d=1):P8 v d e=true↔lB e=v/\0<tn v (lA e) d:=by
 unfold P8;rw[jlK,decide_eq_true_iff,decide_eq_true_iff,ze,hd];refine⟨λk=>⟨k.1,?_⟩,λk=>⟨k.1,?_⟩⟩
 .have:=jad ho k.1;omega
 .have:=jad ho k.1;omega
theorem jaF{a b:Int}(h1:0<=a)(h2:0<=b):0<=a*b:=jl2 h1 h2
def nbS(K E:List Leg)(v d:Pn):Int:=sN K E (TC v d)-sN K E (P8 v d)
section
variable{K E:List Leg}{v:Pn}{p:Leg}
theorem ji5(h:Keys K E)(hp:p∈K)(hA:lA p=v):(Q5 E p).right=blV K E v+nbS K E v (lB p):=by
 have ho:=h.ord p hp;have ho':p.ay<p.b_y\/(p.ay=p.b_y/\p.ax<p.bx):=ho
 have hf:=RD ho' hA;obtain⟨a1,a2⟩:=Bu hA;have c1:=jiR h hp (.inl hA)
 have z:sN K E (P8 v (lB p))=0:=XF λe he=>jjj (h.ord e he) hf
 unfold nbS;rw[z];rcases ho' with hlt|⟨hl,hx⟩
 .have e1:sN K E (TC v (lB p))=sN K E (hrK v)+sN K E (λe=>upK v e&&decide (0<Uc e p)):=Ww λe he=>by
   have hoe:e.ay<e.b_y\/(e.ay=e.b_y/\e.ax<e.bx):=h.ord e he;have hb:=jdF hoe hf
   have ht:lA e=v->tn v (lB e) (lB p)=Uc e p:=λk=>by
    obtain⟨b1,b2⟩:=Bu k;rw[yC];unfold Uc den;show(e.bx-v.1)*(p.b_y-v.2)-(e.b_y-v.2)*(p.bx-v.1)=_
    rw[<-a1,<-a2,<-a1.trans b1.symm,<-a2.trans b2.symm];grind
   have hr:lA e=v->e.ay=e.b_y->0<Uc e p:=λk k2=>by
    have m:=jmj (show 0<e.bx-e.ax by omega) (show 0<p.b_y-p.ay by omega);unfold Uc den;rw[show e.b_y-e.ay=0 by omega,jm2];omega
   have m1:TC v (lB p) e=true↔lA e=v/\0<Uc e p:=by
    rw[hb];exact⟨λk=>⟨k.1,ht k.1▸k.2⟩,λk=>⟨k.1,by rw[ht k.1];exact k.2⟩⟩
   simp only[ix,m1,hrK,upK,jlK,decide_eq_true_eq];by_cases k:lA e=v
   .have:=hr k;simp only[k,true_and,and_true]
    (repeat' split)<;>omega
   .simp[k]
  rw[e1];have o:=jke h hp hlt hA
  unfold Q5;rw[if_neg Om];show Qw E p=_
  omega
 .have e1:sN K E (TC v (lB p))=0:=XF λe he=>by
   have hoe:e.ay<e.b_y\/(e.ay=e.b_y/\e.ax<e.bx):=h.ord e he;rw[jmR];intro k;obtain⟨k1,k2⟩:=(jdF hoe hf).1 k;obtain⟨b1,b2⟩:=Bu k1;rw[yC] at k2;have m:=jaF (show 0<=(lB e).2-v.2 by show 0<=e.b_y-v.2;omega) (show 0<=(lB p).1-v.1 by show 0<=p.bx-v.1;omega)
   have e2:(lB p).2-v.2=0:=by show p.b_y-v.2=0;omega
   rw[e2,jm2] at k2;omega
  rw[e1];have o:=jkd h hp hl hA
  have n:sN K E (hrK v)=qd E p:=WO h.nd hp λe he=>by
   unfold hrK;rw[jl8,jlK,decide_eq_true_iff,decide_eq_true_iff,decide_eq_true_iff];constructor
   .intro k;exact(h.lev_one false hp he hl k.1 hA k.2).symm
   .intro k;subst k;exact⟨hl,hA⟩
  unfold Q5;rw[if_pos hl];show Qw E p-qd E p=_
  omega
theorem ji6(h:Keys K E)(hp:p∈K)(hB:lB p=v):(Q5 E p).left=blV K E v+nbS K E v (lA p):=by
 have ho:p.ay<p.b_y\/(p.ay=p.b_y/\p.ax<p.bx):=h.ord p hp;have hf:=jad ho hB
 obtain⟨a1,a2⟩:=Xx hB;have c1:=jiR h hp (.inr hB)
 have c2:=jkN h hp (.inr hB);have e0:sN K E (TC v (lA p))=sN K E (hrK v)+sN K E (upK v):=Ww λe he=>jkJ (h.ord e he) hf
 unfold nbS;rw[e0];rcases ho with hlt|⟨hl,hx⟩
 .have e1:sN K E (P8 v (lA p))=sN K E (hlK v)+sN K E (λe=>T0 v e&&decide (0<Uc e p)):=Ww λe he=>by
   have hoe:e.ay<e.b_y\/(e.ay=e.b_y/\e.ax<e.bx):=h.ord e he;have hb:=jiO hoe hf
   have ht:lB e=v->tn v (lA e) (lA p)=Uc e p:=λk=>by
    obtain⟨b1,b2⟩:=Xx k;rw[yC];unfold Uc den;show(e.ax-v.1)*(p.ay-v.2)-(e.ay-v.2)*(p.ax-v.1)=_
    rw[<-a1,<-a2,<-a1.trans b1.symm,<-a2.trans b2.symm];grind
   have hr:lB e=v->e.ay=e.b_y->0<Uc e p:=λk k2=>by
    have m:=jmj (show 0<e.bx-e.ax by omega) (show 0<p.b_y-p.ay by omega);unfold Uc den;rw[show e.b_y-e.ay=0 by omega,jm2];omega
   have m1:P8 v (lA p) e=true↔lB e=v/\0<Uc e p:=by
    rw[hb];exact⟨λk=>⟨k.1,ht k.1▸k.2⟩,λk=>⟨k.1,by rw[ht k.1];exact k.2⟩⟩
   simp only[ix,m1,hlK,T0,jlK,decide_eq_true_eq];by_cases k:lB e=v
   .have:=hr k;simp only[k,true_and,and_true]
    (repeat' split)<;>omega
   .simp[k]
  have e2:sN K E (T0 v)=sN K E (λe=>T0 v e&&decide (Uc e p<0))+sN K E (λe=>T0 v e&&decide (0<=Uc e p)):=Ww λe he=>by
   cases T0 v e with
   |false=>rfl
   |true=>
    simp only[jlZ,ix,decide_eq_true_eq,if_true]
    (repeat' split)<;>omega
  have e3:sN K E (λe=>T0 v e&&decide (0<=Uc e p))=sN K E (λe=>T0 v e&&decide (0<Uc e p))+sN K E (λe=>T0 v e&&decide (Uc e p=0)):=Ww λe he=>by
   cases T0 v e with
   |false=>rfl
   |true=>
    simp only[jlZ,ix,decide_eq_true_eq,if_true]
    (repeat' split)<;>omega
  have e4:=jjA h hp hlt hB;have o:=jkb h hp hlt hB
  rw[e1];unfold Q5;rw[if_neg Om];show Qw E p+qd E p=_
  omega
 .have e1:sN K E (P8 v (lA p))=0:=XF λe he=>by
   have hoe:e.ay<e.b_y\/(e.ay=e.b_y/\e.ax<e.bx):=h.ord e he;rw[jmR];intro k;obtain⟨k1,k2⟩:=(jiO hoe hf).1 k;obtain⟨b1,b2⟩:=Xx k1;rw[yC] at k2;have m:=jaF (show 0<=v.2-(lA e).2 by show 0<=v.2-e.ay;omega) (show 0<=v.1-(lA p).1 by show 0<=v.1-p.ax;omega)
   have m2:((lA e).2-v.2)*((lA p).1-v.1)=(v.2-(lA e).2)*(v.1-(lA p).1):=by grind
   have e2:(lA p).2-v.2=0:=by show p.ay-v.2=0;omega
   rw[e2,jm2,m2] at k2;omega
  rw[e1];have o:=jkc h hp hl hB
  unfold Q5;rw[if_pos hl];show Qw E p=_
  omega
end
end Go.Proofs.YtjbahemkhphndaaGreat
