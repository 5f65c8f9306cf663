import Derived.Test.YtjbahemkhphndaaGreatNHot
import Derived.Test.YtjbahemkhphndaaGreatNPix
set_option linter.unusedVariables false
set_option linter.unusedSimpArgs false
namespace Go.Proofs.YtjbahemkhphndaaGreat
open Go Go.RowKit
variable{D N d α β:Int}{P Q a b p:Pn}
theorem jiG(a b p:Pn):tn b a p= -tn a b p:=by simp only[tn,kU];grind
theorem B5(a b p:Pn):uV a b p=uV b a p:=by
 have:tn a b p=0↔tn b a p=0:=by have:=jiG a b p;omega
 rw[jl8,KM,KM,this,jnu,jnt,jnu a.2,jnt a.2]
theorem vU{c d:Pn}:qC a b c d=true↔((tn a b c<0/\0<tn a b d)\/(0<tn a b c/\tn a b d<0))/\((tn c d a<0/\0<tn c d b)\/(0<tn c d a/\tn c d b<0)):=by
 simp only[qC,jlK,decide_eq_true_eq,xv]
theorem OT{n r:Int}(hd:0<d):Xo n d=r↔(2*r-1)*d<=2*n/\2*n<(2*r+1)*d:=by
 have h1:=Int.emod_nonneg n (show d≠0 by omega);have h2:=Int.emod_lt_of_pos n hd
 have h3:=Int.mul_ediv_add_emod n d;have key:(2*Xo n d-1)*d<=2*n/\2*n<(2*Xo n d+1)*d:=by
  unfold Xo;split
  .have e:(2*(n/d+1)-1)*d=2*(d*(n/d))+d:=by grind
   have e':(2*(n/d+1)+1)*d=2*(d*(n/d))+3*d:=by grind
   omega
  .have e:(2*(n/d)-1)*d=2*(d*(n/d))-d:=by grind
   have e':(2*(n/d)+1)*d=2*(d*(n/d))+d:=by grind
   omega
 constructor
 .intro h;rw[<-h];exact key
 .rintro⟨k1,k2⟩;have a1:(2*r-1)*d<(2*Xo n d+1)*d:=by omega
  have a2:(2*Xo n d-1)*d<(2*r+1)*d:=by omega
  have b1:=jmm a1 (jmw hd);have b2:=jmm a2 (jmw hd)
  omega
theorem HI{n n' d':Int}(hd:0<d)(hd':0<d')(h:n*d'=n'*d):Xo n d=Xo n' d':=by
 obtain⟨k1,k2⟩:=(OT (n:=n') hd').1 rfl;rw[OT hd];generalize Xo n' d'=r at*;have e1:(2*r-1)*d'*d<=2*n'*d:=jlO k1 (jmw hd)
 have e2:2*n'*d<(2*r+1)*d'*d:=jl6 k2 hd;have e3:2*n'*d=2*n*d':=by grind
 rw[e3] at e1 e2;have e4:(2*r-1)*d'*d=(2*r-1)*d*d':=by grind
 have e5:(2*r+1)*d'*d=(2*r+1)*d*d':=by grind
 rw[e4] at e1;rw[e5] at e2;exact⟨jmk e1 hd',jmm e2 (jmw hd')⟩
theorem TU{x y u v n n' d':Int}(hd:d≠0)(hd':d'≠0)(h:(x*d+(y-x)*n)*d'=(u*d'+(v-u)*n')*d):D9 x y n d=D9 u v n' d':=by
 unfold D9;split<;>split
 .exact HI Om Om (by grind)
 .exact HI Om Om (by grind)
 .exact HI Om Om (by grind)
 .exact HI Om Om (by grind)
theorem Cn{c d:Pn}(h:crD a b c d≠0)(h':crD c d a b≠0):Rt c d a b=Rt a b c d:=by
 obtain⟨a1,a2⟩:=a;obtain⟨b1,b2⟩:=b;obtain⟨c1,c2⟩:=c;obtain⟨d1,d2⟩:=d;unfold Rt;refine Prod.ext (TU h' h ?_) (TU h' h ?_)
 .simp only[Lp,XX,tn,kU];grind
 .simp only[Lp,XX,tn,kU];grind
def Ctn(s:Sp)(N D:Int):Prop:=(s.ln*D<N*s.ld\/(s.ln*D=N*s.ld/\s.lc=true))/\(N*s.hd<s.hn*D\/(N*s.hd=s.hn*D/\s.hc=true))
theorem jg6{s:Sp}(hD:0<D)(hl:0<s.ld)(hh:0<s.hd)(h:Ctn s N D):Vh s=true:=by
 obtain⟨h1,h2⟩:=h;simp only[Vh,jml,jlK,decide_eq_true_eq];rcases h1 with h1|⟨h1,c1⟩
 .left;have:=wD (a:=s.ln) (b:=s.ld) (c:=N) (d:=D) (e:=s.hn) (f:=s.hd) hD hl hh h1 (by rcases h2 with h2|⟨h2,_⟩<;>omega)
  omega
 .rcases h2 with h2|⟨h2,c2⟩
  .left;have:=vj (a:=s.ln) (b:=s.ld) (c:=N) (d:=D) (e:=s.hn) (f:=s.hd) hD hl hh Om h2
   omega
  .have:=vG (a:=s.ln) (b:=s.ld) (c:=N) (d:=D) (e:=s.hn) (f:=s.hd) hD hl hh Om Om;by_cases e:s.ln*s.hd-s.hn*s.ld=0
   .exact .inr ⟨⟨e,c1⟩,c2⟩
   .left;omega
theorem TW{s x:Sp}(h:Ctn s N D)(hx:Ctn x N D):Ctn (J7 s x) N D:=by
 have hl:Ctn (q5 s x) N D:=by unfold q5;split;exact⟨hx.1,h.2⟩;exact h
 unfold J7 kH;split
 .exact⟨hl.1,hx.2⟩
 .exact hl
theorem E5(h0:0<=N)(h1:N<=D):Ctn ux N D:=by
 unfold Ctn ux;simp;omega
def InC(f d lo N D:Int):Prop:=lo*D<=f*D+d*N/\f*D+d*N<(lo+2)*D
theorem E4{f lo:Int}(hD:0<D)(h0:0<=N)(h1:N<=D)(h:InC f d lo N D):va f d lo=true/\Ctn (Q7 f d lo) N D:=by
 obtain⟨k1,k2⟩:=h;unfold va Q7;by_cases p:0<d
 .rw[if_pos p];refine⟨by simp;omega,?_,?_⟩
  .have e:(lo-f)*D=lo*D-f*D:=by grind
   have e':N*d=d*N:=jmn _ _;show(lo-f)*D<N*d\/((lo-f)*D=N*d/\true=true)
   rcases jm7 (show(lo-f)*D<=N*d by omega) with h|h
   .exact .inl h
   .exact .inr ⟨h,rfl⟩
  .left;have e:(lo+2-f)*D=(lo+2)*D-f*D:=by grind
   have e':N*d=d*N:=jmn _ _;show N*d<(lo+2-f)*D
   omega
 .rw[if_neg p];by_cases q:d<0
  .rw[if_pos q];refine⟨by simp;omega,?_,?_⟩
   .left;have e:(f-lo-2)*D=f*D-(lo+2)*D:=by grind
    have e':N* -d= -(d*N):=by grind
    show(f-lo-2)*D<N* -d;omega
   .have e:(f-lo)*D=f*D-lo*D:=by grind
    have e':N* -d= -(d*N):=by grind
    show N* -d<(f-lo)*D\/(N* -d=(f-lo)*D/\true=true);rcases jm7 (show N* -d<=(f-lo)*D by omega) with h|h
    .exact .inl h
    .exact .inr ⟨h,rfl⟩
  .rw[if_neg q];have d0:d=0:=by omega
   subst d0;have e:f*D+0*N=f*D:=by omega
   rw[e] at k1 k2;have g1:=jmk k1 hD
   have g2:=jmm k2 (jmw hD);exact⟨by simp;omega,E5 h0 h1⟩
theorem jjI{f lo f' d' lo':Int}(hD:0<D)(h0:0<=N)(h1:N<=D)(h:InC f d lo N D)(h':InC f' d' lo' N D):G1 f d lo f' d' lo'=true:=by
 obtain⟨a1,a2⟩:=E4 hD h0 h1 h;obtain⟨b1,b2⟩:=E4 hD h0 h1 h';have p1:=vq U2 (Kx f d lo)
 have p2:=vq p1 (Kx f' d' lo');rw[G1,a1,b1,jg6 hD p2.1 p2.2 (TW (TW (E5 h0 h1) a2) b2)];rfl
def ipB(a b p:Pn):Bool:=WT a.1 a.2&&WT b.1 b.2&&WT p.1 p.2&&G1 (2*a.1) (2*(b.1-a.1)) (2*p.1-1) (2*a.2) (2*(b.2-a.2)) (2*p.2-1)
theorem jiT(ha:bd2 a)(hb:bd2 b)(hp:bd2 p)(hD:0<D)(h0:0<=N)(h1:N<=D)(hx:(2*p.1-1)*D<=2*(a.1*D+(b.1-a.1)*N)/\2*(a.1*D+(b.1-a.1)*N)<(2*p.1+1)*D)(hy:(2*p.2-1)*D<=2*(a.2*D+(b.2-a.2)*N)/\2*(a.2*D+(b.2-a.2)*N)<(2*p.2+1)*D):ipB a b p=true:=by
 rw[ipB,zl ha,zl hb,zl hp,jlZ,jlZ,jlZ];refine jjI hD h0 h1 ?_ ?_
 .have e:2*a.1*D+2*(b.1-a.1)*N=2*(a.1*D+(b.1-a.1)*N):=by grind
  have e2:(2*p.1-1+2)*D=(2*p.1+1)*D:=by grind
  unfold InC;rw[e,e2];exact hx
 .have e:2*a.2*D+2*(b.2-a.2)*N=2*(a.2*D+(b.2-a.2)*N):=by grind
  have e2:(2*p.2-1+2)*D=(2*p.2+1)*D:=by grind
  unfold InC;rw[e,e2];exact hy
theorem jaD{x y B r:Int}(hx: -B<=x/\x<=B)(hy: -B<=y/\y<=B)(hD:0<D)(h0:0<=N)(h1:N<=D)(h:(2*r-1)*D<=2*(x*D+(y-x)*N)/\2*(x*D+(y-x)*N)<(2*r+1)*D): -B<=r/\r<=B:=by
 have e:x*D+(y-x)*N=x*(D-N)+y*N:=by grind
 rw[e] at h;have a1:x*(D-N)<=B*(D-N):=jlO hx.2 Om
 have a2:y*N<=B*N:=jlO hy.2 h0;have a3: -B*(D-N)<=x*(D-N):=jlO hx.1 Om
 have a4: -B*N<=y*N:=jlO hy.1 h0;have e1:B*(D-N)+B*N=B*D:=by grind
 have e2: -B*(D-N)+ -B*N= -B*D:=by grind
 have k1:(2*r-1)*D<=(2*B)*D:=by
  have:2*B*D=2*(B*D):=by grind
  omega
 have k2:(2* -B)*D<(2*r+1)*D:=by
  have:2* -B*D=2*(-B*D):=by grind
  omega
 have m1:=jmk k1 hD;have m2:=jmm k2 (jmw hD)
 omega
theorem Cq{x y n:Int}(hd:d≠0):∃N D:Int,0<D/\((d<0/\N= -n/\D= -d)\/(0<d/\N=n/\D=d))/\(2*D9 x y n d-1)*D<=2*(x*D+(y-x)*N)/\2*(x*D+(y-x)*N)<(2*D9 x y n d+1)*D:=by
 unfold D9;split
 .exact⟨-n,-d,by omega,.inl ⟨by assumption,rfl,rfl⟩,(OT Om).1 rfl⟩
 .exact⟨n,d,by omega,.inr ⟨by omega,rfl,rfl⟩,(OT Om).1 rfl⟩
theorem jb3{c d:Pn}(ha:bd2 a)(hb:bd2 b)(hs:qC a b c d=true):bd2 (Rt a b c d)/\ipB a b (Rt a b c d)=true:=by
 have hD:=yB hs;have hs2:=(vU.1 hs).2
 rw[<-XX a c d] at hs2;have e:=Lp a b c d
 rw[<-XX a c d] at e;obtain⟨N,D,h0,h1,hx⟩:=Cq (x:=a.1) (y:=b.1) (n:=crN a c d) hD;obtain⟨N',D',_,h1',hy⟩:=Cq (x:=a.2) (y:=b.2) (n:=crN a c d) hD;obtain rfl:N'=N:=by omega
 obtain rfl:D'=D:=by omega
 have n0:0<=N'/\N'<=D':=by omega
 have m1:=jaD ha.1 hb.1 h0 n0.1 n0.2 hx;have m2:=jaD ha.2 hb.2 h0 n0.1 n0.2 hy
 have hp:bd2 (Rt a b c d):=⟨m1,m2⟩;exact⟨hp,jiT ha hb hp h0 n0.1 n0.2 hx hy⟩
theorem jj5(ha:bd2 a)(hb:bd2 b)(h:uV a b p=true):bd2 p/\ipB a b p=true:=by
 obtain⟨ht,hx,hy⟩:=KM.1 h;have hp:bd2 p:=by
  obtain⟨⟨a1,a2⟩,a3,a4⟩:=ha;obtain⟨⟨b1,b2⟩,b3,b4⟩:=hb;refine⟨⟨?_,?_⟩,?_,?_⟩<;>omega
 have ht':(b.1-a.1)*(p.2-a.2)=(b.2-a.2)*(p.1-a.1):=by simp only[tn,kU] at ht;omega
 have key:∀N D:Int,0<D->0<=N->N<=D->a.1*D+(b.1-a.1)*N=p.1*D->a.2*D+(b.2-a.2)*N=p.2*D->ipB a b p=true:=by
  intro N D h0 h1 h2 e1 e2;refine jiT ha hb hp h0 h1 h2 ?_ ?_
  .rw[e1];have g1:(2*p.1-1)*D=2*(p.1*D)-D:=by grind
   have g2:(2*p.1+1)*D=2*(p.1*D)+D:=by grind
   omega
  .rw[e2];have g1:(2*p.2-1)*D=2*(p.2*D)-D:=by grind
   have g2:(2*p.2+1)*D=2*(p.2*D)+D:=by grind
   omega
 refine⟨hp,?_⟩;rcases jmv a.1 b.1 with h1|h1|h1
 .exact key (p.1-a.1) (b.1-a.1) Om Om Om (by grind) (by grind)
 .rcases jmv a.2 b.2 with h2|h2|h2
  .exact key (p.2-a.2) (b.2-a.2) Om Om Om (by grind) (by grind)
  .have e1:p.1=a.1:=by omega
   have e2:p.2=a.2:=by omega
   exact key 0 1 Om Om Om Om Om
  .exact key (a.2-p.2) (a.2-b.2) Om Om Om (by grind) (by grind)
 .exact key (a.1-p.1) (a.1-b.1) Om Om Om (by grind) (by grind)
def cr(P Q:Pn):Int:=P.1*Q.2-P.2*Q.1
def ws(P Q:Pn):Int:=if(P.2<=0/\0<Q.2)/\0<cr P Q then 1 else if(Q.2<=0/\0<P.2)/\cr P Q<0 then-1 else 0
def up(α:Int)(P:Pn):Int:=if 0<α/\0<P.2 then 1 else 0
theorem Kp{a b p:Int}(h:p=a*b):(0<a/\0<b/\0<p)\/(0<a/\b<0/\p<0)\/(a<0/\0<b/\p<0)\/(a<0/\b<0/\0<p)\/(a=0/\p=0)\/(b=0/\p=0):=by
 subst h;rcases jmv a 0 with ha|ha|ha
 .rcases jmv b 0 with hb|hb|hb
  .exact .inr (.inr (.inr (.inl ⟨ha,hb,jnJ ha hb⟩)))
  .subst hb;simp
  .exact .inr (.inr (.inl ⟨ha,hb,jmD ha hb⟩))
 .subst ha;simp
 .rcases jmv b 0 with hb|hb|hb
  .exact .inr (.inl ⟨ha,hb,jnc ha hb⟩)
  .subst hb;simp
  .exact .inl ⟨ha,hb,jmj ha hb⟩
def Hf(α β:Int)(P:Pn):Prop:=0<α*P.1+β*P.2
theorem Yh(hP:Hf α β P)(hQ:Hf α β Q):ws P Q=up α Q-up α P:=by
 have key:α*cr P Q=(α*P.1+β*P.2)*Q.2-P.2*(α*Q.1+β*Q.2):=by unfold cr;grind
 unfold Hf at hP hQ;have h1:=Kp (a:=α*P.1+β*P.2) (b:=Q.2) rfl
 have h2:=Kp (a:=P.2) (b:=α*Q.1+β*Q.2) rfl;have h3:=Kp (a:=α) (b:=cr P Q) rfl
 unfold ws up;generalize (α*P.1+β*P.2)*Q.2=x at*;generalize P.2*(α*Q.1+β*Q.2)=y at*;generalize α*cr P Q=z at*;generalize α*P.1+β*P.2=p at*;generalize α*Q.1+β*Q.2=q at*;generalize cr P Q=t at*
 repeat' split
 all_goals omega
theorem O5{P' Q':Pn}(h1:Hf α β P)(h2:Hf α β P')(h3:Hf α β Q)(h4:Hf α β Q'):ws P P'+ws P' Q'=ws P Q+ws Q Q':=by
 rw[Yh h1 h2,Yh h2 h4,Yh h1 h3,Yh h3 h4];omega
theorem Lb{R S:Pn}(h1:Hf α β P)(h2:Hf α β Q)(h3:Hf α β R)(h4:Hf α β S):ws P Q+ws Q R+ws R S+ws S P=0:=by
 rw[Yh h1 h2,Yh h2 h3,Yh h3 h4,Yh h4 h1];omega
theorem jg5(P Q:Pn):cr Q P= -cr P Q:=by unfold cr;grind
theorem O4(P Q:Pn):ws Q P= -ws P Q:=by
 unfold ws;rw[jg5];generalize cr P Q=t
 repeat' split
 all_goals omega
def sb(P Q:Pn):Pn:=(P.1-Q.1,P.2-Q.2)
def XA(X X' Y Y':Pn):Int:=ws (sb X Y) (sb X' Y)+ws (sb X' Y) (sb X' Y')+ws (sb X' Y') (sb X Y')+ws (sb X Y') (sb X Y)
theorem CZ(X X' Y Y':Pn):XA X' X Y Y'= -XA X X' Y Y':=by
 unfold XA;rw[O4 (sb X' Y) (sb X Y),O4 (sb X' Y) (sb X' Y'),O4 (sb X' Y') (sb X Y'),O4 (sb X Y') (sb X Y)];have e1:ws (sb X' Y) (sb X' Y')=ws (sb X' Y) (sb X' Y'):=rfl
 omega
theorem jkO(X X' Y:Pn):cr (sb X Y) (sb X' Y)=tn X X' Y:=by simp only[cr,sb,tn,kU];grind
theorem jkP(X' Y Y':Pn):cr (sb X' Y) (sb X' Y')=tn Y Y' X':=by simp only[cr,sb,tn,kU];grind
theorem jkQ(X X' Y':Pn):cr (sb X' Y') (sb X Y')= -tn X X' Y':=by simp only[cr,sb,tn,kU];grind
theorem jkR(X Y Y':Pn):cr (sb X Y') (sb X Y)= -tn Y Y' X:=by simp only[cr,sb,tn,kU];grind
theorem ST(X X' Y Y':Pn):tn X X' Y'-tn X X' Y= -(tn Y Y' X'-tn Y Y' X):=by simp only[tn,kU];grind
theorem jbA(h:0<cr P Q):ws P Q=if P.2<=0/\0<Q.2 then 1 else 0:=by
 unfold ws;generalize cr P Q=t at*
 repeat' split
 all_goals omega
theorem Ir{X X' Y Y':Pn}(h1:0<tn X X' Y)(h2:tn X X' Y'<0)(h3:tn Y Y' X<0)(h4:0<tn Y Y' X'):XA X X' Y Y'≠0:=by
 have c0:=jkO X X' Y;have c1:=jkP X' Y Y'
 have c2:=jkQ X X' Y';have c3:=jkR X Y Y'
 unfold XA;rw[jbA Om,jbA Om,jbA Om,jbA Om];have w1:0< -(tn Y Y' X'*tn X X' Y'):=by have:=jnc h4 h2;omega
 have w2:0<tn Y Y' X*tn X X' Y':=jnJ h3 h2;have w3:0< -(tn Y Y' X*tn X X' Y):=by have:=jmD h3 h1;omega
 have w4:0<tn Y Y' X'*tn X X' Y:=jmj h4 h1;have hs: -(tn Y Y' X'*tn X X' Y')*(sb X Y).2+tn Y Y' X*tn X X' Y'*(sb X' Y).2+ -(tn Y Y' X*tn X X' Y)*(sb X' Y').2+tn Y Y' X'*tn X X' Y*(sb X Y').2=0:=by
  simp only[tn,kU,sb];grind
 have z0:∀P Q:Pn,P.2=0->Q.2=0->cr P Q=0:=λP Q e1 e2=>by simp[cr,e1,e2]
 generalize tn Y Y' X'*tn X X' Y'=a1 at*;generalize tn Y Y' X*tn X X' Y'=a2 at*;generalize tn Y Y' X*tn X X' Y=a3 at*;generalize tn Y Y' X'*tn X X' Y=a4 at*;generalize tn X X' Y=t1 at*;generalize tn X X' Y'=t2 at*;generalize tn Y Y' X=t3 at*;generalize tn Y Y' X'=t4 at*;generalize sb X Y=P0 at*;generalize sb X' Y=P1 at*;generalize sb X' Y'=P2 at*;generalize sb X Y'=P3 at*;intro hz;by_cases hp:0<P0.2
 .have k1:0<P1.2/\0<P2.2/\0<P3.2:=by
   by_cases k3:0<P3.2<;>by_cases k2:0<P2.2<;>by_cases k1:0<P1.2<;>simp[hp,k1,k2,k3,Int.not_le.2,jmS.1] at hz⊢<;>omega
  have m0:=jmj w1 hp;have m1:=jmj w2 k1.1
  have m2:=jmj w3 k1.2.1;have m3:=jmj w4 k1.2.2
  omega
 .have k1:P1.2<=0/\P2.2<=0/\P3.2<=0:=by
   by_cases k3:0<P3.2<;>by_cases k2:0<P2.2<;>by_cases k1:0<P1.2<;>(try omega)<;>exfalso<;>revert hz<;>(repeat' split)<;>omega
  have m0:=Kp (a:= -a1) (b:=P0.2) rfl;have m1:=Kp (a:=a2) (b:=P1.2) rfl
  have m2:=Kp (a:= -a3) (b:=P2.2) rfl;have m3:=Kp (a:=a4) (b:=P3.2) rfl
  have e0:P0.2=0:=by omega
  have e1:P1.2=0:=by omega
  have:=z0 P0 P1 e0 e1;omega
theorem PW(a b p:Pn):tn b a p= -tn a b p:=by simp only[tn,kU];grind
theorem NQ{X X' Y Y':Pn}(h:qC X X' Y Y'=true):XA X X' Y Y'≠0:=by
 have hd:=ST X X' Y Y';obtain⟨h1,h2⟩:=vU.1 h;rcases h1 with h1|h1
 .have f1:=PW X X' Y;have f2:=PW X X' Y'
  have:=Ir (X:=X') (X':=X) (Y:=Y) (Y':=Y') Om Om Om Om;rw[CZ] at this;omega
 .exact Ir Om Om Om Om
theorem LS(hab:a≠b)(ht:tn a b p=0)(hn:uV a b p≠true):∃m n:Int,0<m/\0<n/\m*(a.1-p.1)=n*(b.1-p.1)/\m*(a.2-p.2)=n*(b.2-p.2):=by
 have ht':(b.1-a.1)*(p.2-a.2)=(b.2-a.2)*(p.1-a.1):=by simp only[tn,kU] at ht;omega
 have hn':¬((min a.1 b.1<=p.1/\p.1<=max a.1 b.1)/\min a.2 b.2<=p.2/\p.2<=max a.2 b.2):=λh=>hn (KM.2 ⟨ht,h.1,h.2⟩)
 by_cases h1:p.1<a.1/\p.1<b.1
 .exact⟨b.1-p.1,a.1-p.1,by omega,by omega,jmn ..,by grind⟩
 .by_cases h2:a.1<p.1/\b.1<p.1
  .exact⟨p.1-b.1,p.1-a.1,by omega,by omega,by grind,by grind⟩
  .by_cases h3:p.2<a.2/\p.2<b.2
   .exact⟨b.2-p.2,a.2-p.2,by omega,by omega,by grind,jmn ..⟩
   .by_cases h4:a.2<p.2/\b.2<p.2
    .exact⟨p.2-b.2,p.2-a.2,by omega,by omega,by grind,by grind⟩
    .exact absurd ⟨⟨by omega,by omega⟩,by omega,by omega⟩ hn'
theorem xR{q:Pn}(hab:a≠b)(ht:tn a b p=0)(hn:uV a b p≠true)(h1:¬(0<tn p q a/\0<tn p q b))(h2:¬(tn p q a<0/\tn p q b<0)):tn p q a=0/\tn p q b=0:=by
 obtain⟨m,n,hm,hn',e1,e2⟩:=LS hab ht hn;have key:m*tn p q a=n*tn p q b:=by
  have g1:m*tn p q a=(q.1-p.1)*(m*(a.2-p.2))-(q.2-p.2)*(m*(a.1-p.1)):=by simp only[tn,kU];grind
  have g2:n*tn p q b=(q.1-p.1)*(n*(b.2-p.2))-(q.2-p.2)*(n*(b.1-p.1)):=by simp only[tn,kU];grind
  rw[g1,g2,e1,e2]
 have s1:=Kp (a:=m) (b:=tn p q a) rfl;have s2:=Kp (a:=n) (b:=tn p q b) rfl
 omega
theorem O2(p q a:Pn):tn q p a= -tn p q a:=by simp only[tn,kU];grind
structure Off (X X' Y Y':Pn):Prop where
 x:X≠X'
 y:Y≠Y'
 nn1:uV X X' Y≠true
 nn2:uV X X' Y'≠true
 nn3:Go.Proofs.YtjbahemkhphndaaGreat.uV Y Y' X≠true
 nn4:Go.Proofs.YtjbahemkhphndaaGreat.uV Y Y' X'≠true
theorem Ry{p q x1 x2 y1 y2 k j:Int}(hk:0<k)(hj:0<j)(e1:k*x1=j*y1)(e2:k*x2=j*y2)(h:0<p*y1+q*y2):0<p*x1+q*x2:=by
 have e:k*(p*x1+q*x2)=j*(p*y1+q*y2):=by
  have:k*(p*x1+q*x2)=p*(k*x1)+q*(k*x2):=by grind
  rw[this,e1,e2];grind
 have s1:=Kp (a:=k) (b:=p*x1+q*x2) rfl;have s2:=jmj hj h
 omega
theorem jcn{X X' Y Y':Pn}(h:Off X X' Y Y')(hs:qC X X' Y Y'≠true):XA X X' Y Y'=0:=by
 have g0:∀Z W:Pn,-(X'.1-X.1)*(Z.2-W.2)+(X'.2-X.2)*(Z.1-W.1)=tn X X' W-tn X X' Z:=λZ W=>by simp only[tn,kU];grind
 have g1:∀Z W:Pn,(Y'.1-Y.1)*(Z.2-W.2)+ -(Y'.2-Y.2)*(Z.1-W.1)=tn Y Y' Z-tn Y Y' W:=λZ W=>by simp only[tn,kU];grind
 have x0:tn X X' X=0:=by simp only[tn,kU];grind
 have x1:tn X X' X'=0:=by simp only[tn,kU];grind
 have y0:tn Y Y' Y=0:=by simp only[tn,kU];grind
 have y1:tn Y Y' Y'=0:=by simp only[tn,kU];grind
 by_cases a1:0<tn X X' Y/\0<tn X X' Y'
 .refine Lb (α:=X'.2-X.2) (β:= -(X'.1-X.1)) ?_ ?_ ?_ ?_<;>simp only[Hf,sb]
  .have:=g0 X Y;omega
  .have:=g0 X' Y;omega
  .have:=g0 X' Y';omega
  .have:=g0 X Y';omega
 by_cases a2:tn X X' Y<0/\tn X X' Y'<0
 .have n1:∀Z W:Pn,-(X'.2-X.2)*(Z.1-W.1)+(X'.1-X.1)*(Z.2-W.2)=tn X X' Z-tn X X' W:=λZ W=>by simp only[tn,kU];grind
  refine Lb (α:= -(X'.2-X.2)) (β:=X'.1-X.1) ?_ ?_ ?_ ?_<;>simp only[Hf,sb]
  .have:=n1 X Y;omega
  .have:=n1 X' Y;omega
  .have:=n1 X' Y';omega
  .have:=n1 X Y';omega
 by_cases a3:0<tn Y Y' X/\0<tn Y Y' X'
 .refine Lb (α:= -(Y'.2-Y.2)) (β:=Y'.1-Y.1) ?_ ?_ ?_ ?_<;>simp only[Hf,sb]
  .have:=g1 X Y;omega
  .have:=g1 X' Y;omega
  .have:=g1 X' Y';omega
  .have:=g1 X Y';omega
 by_cases a4:tn Y Y' X<0/\tn Y Y' X'<0
 .have n1:∀Z W:Pn,(Y'.2-Y.2)*(Z.1-W.1)+ -(Y'.1-Y.1)*(Z.2-W.2)=tn Y Y' W-tn Y Y' Z:=λZ W=>by simp only[tn,kU];grind
  refine Lb (α:=Y'.2-Y.2) (β:= -(Y'.1-Y.1)) ?_ ?_ ?_ ?_<;>simp only[Hf,sb]
  .have:=n1 X Y;omega
  .have:=n1 X' Y;omega
  .have:=n1 X' Y';omega
  .have:=n1 X Y';omega
 have f1:=O2 Y Y' X;have f2:=O2 Y Y' X'
 have f3:=O2 X X' Y;have f4:=O2 X X' Y'
 have hd:=ST X X' Y Y';have all0:tn X X' Y=0/\tn X X' Y'=0/\tn Y Y' X=0/\tn Y Y' X'=0:=by
  have k1:tn X X' Y=0->tn Y Y' X=0/\tn Y Y' X'=0:=λe=>xR h.x e h.nn1 a3 a4
  have k2:tn X X' Y'=0->tn Y' Y X=0/\tn Y' Y X'=0:=λe=>xR h.x e h.nn2 Om Om
  have k3:tn Y Y' X=0->tn X X' Y=0/\tn X X' Y'=0:=λe=>xR h.y e h.nn3 a1 a2
  have k4:tn Y Y' X'=0->tn X' X Y=0/\tn X' X Y'=0:=λe=>xR h.y e h.nn4 Om Om
  have hs':=λe=>hs (vU.2 e)
  by_cases z1:tn X X' Y=0
  .have:=k1 z1;have:=k3 this.1;omega
  .by_cases z2:tn X X' Y'=0
   .have:=k2 z2;have:=k3 Om;omega
   .by_cases z3:tn Y Y' X=0
    .have:=k3 z3;omega
    .by_cases z4:tn Y Y' X'=0
     .have:=k4 z4;omega
     .exact absurd ⟨by omega,by omega⟩ hs'
 obtain⟨m,n,hm,hn,e1,e2⟩:=LS h.x all0.1 h.nn1;obtain⟨m',n',hm',hn',e1',e2'⟩:=LS h.y all0.2.2.1 h.nn3;obtain⟨m'',n'',hm'',hn'',e1'',e2''⟩:=LS h.y all0.2.2.2 h.nn4;have hne:X.1-Y.1≠0\/X.2-Y.2≠0:=by
  by_cases k:X.1-Y.1=0
  .refine .inr λk2=>h.nn1 ?_
   have:Y=X:=Prod.ext Om Om;rw[this];exact Ul X X'
  .exact .inl k
 have hq:0<(X.1-Y.1)*(X.1-Y.1)+(X.2-Y.2)*(X.2-Y.2):=by
  have s1:=Kp (a:=X.1-Y.1) (b:=X.1-Y.1) rfl;have s2:=Kp (a:=X.2-Y.2) (b:=X.2-Y.2) rfl
  omega
 have neg:∀{k j x y z:Int},k*(x-z)=j*(y-z)->j*(z-y)=k*(z-x):=λ{k j x y z} e=>by
  have g1:j*(z-y)= -(j*(y-z)):=by grind
  have g2:k*(z-x)= -(k*(x-z)):=by grind
  omega
 have hb:0<(X.1-Y.1)*(X'.1-Y.1)+(X.2-Y.2)*(X'.2-Y.2):=Ry hn hm e1.symm e2.symm hq;refine Lb (α:=X.1-Y.1) (β:=X.2-Y.2) hq hb ?_ ?_
 .exact Ry hn'' hm'' (neg e1'') (neg e2'') hb
 .exact Ry hn' hm' (neg e1') (neg e2') hq
end Go.Proofs.YtjbahemkhphndaaGreat
