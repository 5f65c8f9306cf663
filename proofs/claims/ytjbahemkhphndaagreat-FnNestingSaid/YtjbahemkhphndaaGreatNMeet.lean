import Derived.Test.YtjbahemkhphndaaGreatNBounds
import Derived.Test.YtjbahemkhphndaaGreatNValidRegion
set_option linter.unusedVariables false
set_option linter.unusedSimpArgs false
namespace Go.Proofs.YtjbahemkhphndaaGreat
open Go Go.RowKit
set_option maxRecDepth 100000
set_option maxHeartbeats 4000000
open Go.RowKit
abbrev Pn:=Int×Int
def tn(a b c:Pn):Int:=kU a.1 a.2 b.1 b.2 c.1 c.2
def uV(a b p:Pn):Bool:=Tc a.1 a.2 b.1 b.2 p.1 p.2
def bd2(p:Pn):Prop:=(-262144<=p.1/\p.1<=262144)∧-262144<=p.2/\p.2<=262144
theorem zK{p:Pn}(h:WT p.1 p.2=true):bd2 p:=by
 simp[WT,X2] at h;exact⟨⟨by omega,by omega⟩,by omega,by omega⟩
def key(p:Pn):Int:=p.1*1048576+p.2
theorem jht{p q:Pn}(hp:bd2 p)(hq:bd2 q)(h:key p=key q):p=q:=by
 obtain⟨x,y⟩:=p;obtain⟨x',y'⟩:=q;unfold bd2 key at*;simp only at*;have:x=x':=by omega
 subst this;have:y=y':=by omega
 rw[this]
theorem KM{a b p:Pn}:uV a b p=true↔tn a b p=0/\(min a.1 b.1<=p.1/\p.1<=max a.1 b.1)/\min a.2 b.2<=p.2/\p.2<=max a.2 b.2:=by
 simp only[uV,Tc,tn,jlK,beq_iff_eq,decide_eq_true_eq];constructor
 .rintro⟨⟨⟨⟨h1,h2⟩,h3⟩,h4⟩,h5⟩;exact⟨h1,⟨h2,h3⟩,h4,h5⟩
 .rintro⟨h1,⟨h2,h3⟩,h4,h5⟩;exact⟨⟨⟨⟨h1,h2⟩,h3⟩,h4⟩,h5⟩
theorem N0{a b:Int}(h:a*b=0):a=0\/b=0:=Int.mul_eq_zero.1 h
theorem par{x1 x2 y1 y2 u1 u2:Int}(hx:x1*u2-x2*u1=0)(hy:y1*u2-y2*u1=0)(hu:¬(u1=0/\u2=0)):x1*y2-x2*y1=0:=by
 have e1:u1*(x1*y2-x2*y1)=0:=by grind
 have e2:u2*(x1*y2-x2*y1)=0:=by grind
 rcases N0 e1 with h|h
 .rcases N0 e2 with h'|h'
  .exact absurd ⟨h,h'⟩ hu
  .exact h'
 .exact h
theorem jky{a b c d p q:Pn}(hp:uV a b p=true)(hp':uV c d p=true)(hq:uV a b q=true)(hq':uV c d q=true)(hne:p≠q):
  tn a b c=0/\tn a b d=0/\tn c d a=0/\tn c d b=0:=by
 rw[KM] at hp hp' hq hq';obtain⟨a1,a2⟩:=a;obtain⟨b1,b2⟩:=b;obtain⟨c1,c2⟩:=c;obtain⟨d1,d2⟩:=d;obtain⟨p1,p2⟩:=p;obtain⟨q1,q2⟩:=q;simp only[tn,kU] at*;have hu:¬(q1-p1=0/\q2-p2=0):=λh=>hne (by rw[show p1=q1 by omega,show p2=q2 by omega])
 have hab:(b1-a1)*(q2-p2)-(b2-a2)*(q1-p1)=0:=by grind
 have hcd:(d1-c1)*(q2-p2)-(d2-c2)*(q1-p1)=0:=by grind
 have hpar:=par hab hcd hu;have hcp:(c1-p1)*(q2-p2)-(c2-p2)*(q1-p1)=0:=by
  by_cases hz:d1-c1=0/\d2-c2=0
  .have:p1=q1/\p2=q2:=by omega
   exact absurd (by rw[this.1,this.2]) hne
  .have h1:(c1-p1)*(d2-c2)-(c2-p2)*(d1-c1)=0:=by grind
   have h2:(q1-p1)*(d2-c2)-(q2-p2)*(d1-c1)=0:=by grind
   exact par h1 h2 hz
 have hap:(a1-p1)*(q2-p2)-(a2-p2)*(q1-p1)=0:=by
  by_cases hz:b1-a1=0/\b2-a2=0
  .have:p1=q1/\p2=q2:=by omega
   exact absurd (by rw[this.1,this.2]) hne
  .have h1:(a1-p1)*(b2-a2)-(a2-p2)*(b1-a1)=0:=by grind
   have h2:(q1-p1)*(b2-a2)-(q2-p2)*(b1-a1)=0:=by grind
   exact par h1 h2 hz
 have k1:=par hab hcp hu;have k2:=par hcd hap hu
 refine⟨?_,?_,?_,?_⟩<;>grind
theorem jfn{a b p:Pn}(ha:bd2 a)(hb:bd2 b)(hp:bd2 p)(h:tn a b p=0):uV a b p=true↔min (key a) (key b)<=key p/\key p<=max (key a) (key b):=by
 rw[KM];obtain⟨a1,a2⟩:=a;obtain⟨b1,b2⟩:=b;obtain⟨p1,p2⟩:=p;simp only[tn,kU,key,bd2] at*;constructor
 .rintro⟨_,h2,h3⟩;rcases jmv a1 b1 with hx|hx|hx
  .by_cases e:p1=a1
   .subst e;have:(b1-p1)*(p2-a2)=0:=by grind
    rcases N0 this with h4|h4<;>omega
   .by_cases e:p1=b1
    .subst e;have:(p1-a1)*(p2-b2)=0:=by grind
     rcases N0 this with h4|h4<;>omega
    .omega
  .omega
  .by_cases e:p1=a1
   .subst e;have:(b1-p1)*(p2-a2)=0:=by grind
    rcases N0 this with h4|h4<;>omega
   .by_cases e:p1=b1
    .subst e;have:(p1-a1)*(p2-b2)=0:=by grind
     rcases N0 this with h4|h4<;>omega
    .omega
 .intro h2;have hx:min a1 b1<=p1/\p1<=max a1 b1:=by omega
  refine⟨h,hx,?_⟩;rcases jmv a1 b1 with hl|hl|hl
  .have k1:0<=p1-a1:=by omega
   have k2:p1-a1<=b1-a1:=by omega
   have e:(b1-a1)*(p2-a2)=(b2-a2)*(p1-a1):=by omega
   by_cases hy:a2<=b2
   .have g1:0<=(b2-a2)*(p1-a1):=jl2 Om k1;have g2:(b2-a2)*(p1-a1)<=(b2-a2)*(b1-a1):=jmr k2 Om
    have g3:(b1-a1)*(p2-a2)<=(b1-a1)*(b2-a2):=by rw[e,jmn (b1-a1)];exact g2
    have g4:(b1-a1)*0<=(b1-a1)*(p2-a2):=by rw[e];simpa using g1
    have:=jmX g3 Om;have:=jmX g4 Om
    omega
   .have g1:0<=(a2-b2)*(p1-a1):=jl2 Om k1;have g2:(a2-b2)*(p1-a1)<=(a2-b2)*(b1-a1):=jmr k2 Om
    have e':(b1-a1)*(a2-p2)=(a2-b2)*(p1-a1):=by grind
    have g3:(b1-a1)*(a2-p2)<=(b1-a1)*(a2-b2):=by rw[e',jmn (b1-a1)];exact g2
    have g4:(b1-a1)*0<=(b1-a1)*(a2-p2):=by rw[e'];simpa using g1
    have:=jmX g3 Om;have:=jmX g4 Om
    omega
  .omega
  .have k1:0<=a1-p1:=by omega
   have k2:a1-p1<=a1-b1:=by omega
   by_cases hy:a2<=b2
   .have g1:0<=(b2-a2)*(a1-p1):=jl2 Om k1;have g2:(b2-a2)*(a1-p1)<=(b2-a2)*(a1-b1):=jmr k2 Om
    have e':(a1-b1)*(p2-a2)=(b2-a2)*(a1-p1):=by grind
    have g3:(a1-b1)*(p2-a2)<=(a1-b1)*(b2-a2):=by rw[e',jmn (a1-b1)];exact g2
    have g4:(a1-b1)*0<=(a1-b1)*(p2-a2):=by rw[e'];simpa using g1
    have:=jmX g3 Om;have:=jmX g4 Om
    omega
   .have g1:0<=(a2-b2)*(a1-p1):=jl2 Om k1;have g2:(a2-b2)*(a1-p1)<=(a2-b2)*(a1-b1):=jmr k2 Om
    have e':(a1-b1)*(a2-p2)=(a2-b2)*(a1-p1):=by grind
    have g3:(a1-b1)*(a2-p2)<=(a1-b1)*(a2-b2):=by rw[e',jmn (a1-b1)];exact g2
    have g4:(a1-b1)*0<=(a1-b1)*(a2-p2):=by rw[e'];simpa using g1
    have:=jmX g3 Om;have:=jmX g4 Om
    omega
def GS(p q:Pn):Int:=if p.1=q.1 then wP (p.2-q.2) else wP (p.1-q.1)
theorem UE(n:Int):(n<0/\wP n= -1)\/(n=0/\wP n=0)\/(0<n/\wP n=1):=by unfold wP;split<;>(try split)<;>omega
theorem Bo{p q:Pn}(hp:bd2 p)(hq:bd2 q):GS p q=wP (key p-key q):=by
 obtain⟨x,y⟩:=p;obtain⟨x',y'⟩:=q;unfold bd2 GS key at*;simp only at*;have h1:=UE (y-y');have h2:=UE (x-x');have h3:=UE (x*1048576+y-(x'*1048576+y'))
 split<;>omega
def G8(a b:Pn):Pn:=if GS a b<=0 then a else b
def G0(a b:Pn):Pn:=if 0<=GS a b then a else b
theorem YO{p q:Pn}(hp:bd2 p)(hq:bd2 q):key (G8 p q)=min (key p) (key q)/\bd2 (G8 p q)/\(G8 p q=p\/G8 p q=q):=by
 unfold G8;rw[Bo hp hq];have:=UE (key p-key q)
 split
 .exact⟨by omega,hp,.inl rfl⟩
 .exact⟨by omega,hq,.inr rfl⟩
theorem YL{p q:Pn}(hp:bd2 p)(hq:bd2 q):key (G0 p q)=max (key p) (key q)/\bd2 (G0 p q)/\(G0 p q=p\/G0 p q=q):=by
 unfold G0;rw[Bo hp hq];have:=UE (key p-key q)
 split
 .exact⟨by omega,hp,.inl rfl⟩
 .exact⟨by omega,hq,.inr rfl⟩
def GX(a b c d:Pn):Bool:=(wP (tn a b c)==0) && (wP (tn a b d)==0) && (wP (tn c d a)==0) && (wP (tn c d b)==0)
def qC(a b c d:Pn):Bool:=decide (wP (tn a b c)*wP (tn a b d)<0) &&decide (wP (tn c d a)*wP (tn c d b)<0)
def Yr(a b c d:Pn):Pn:=G0 (G8 a b) (G8 c d)
def UN(a b c d:Pn):Pn:=G8 (G0 a b) (G0 c d)
def yV(a b c d:Pn):Int×Pn:=
 if GX a b c d=true then
  (if GS (Yr a b c d) (UN a b c d)=0 then(1,Yr a b c d) else if GS (Yr a b c d) (UN a b c d)= -1 then(3,Yr a b c d) else(0,(0,0)))
 else if qC a b c d=true then(2,(0,0))
 else if uV a b c=true then(1,c) else if uV a b d=true then(1,d) else if uV c d a=true then(1,a) else if uV c d b=true then(1,b) else(0,(0,0))
def Kb(a b c d p:Pn):Bool:=uV a b p&&uV c d p
def M3(a b c d:Pn)(out:List Pn)(p:Pn):List Pn:=if(!(out.contains p) &&Kb a b c d p)=true then out++[p] else out
def QE(a b c d:Pn):List Pn:=M3 a b c d (M3 a b c d (M3 a b c d (M3 a b c d [] a) b) c) d
def Qi(a b c d:Pn):Int:=if(QE a b c d).length=0 then(if qC a b c d=true then 2 else 0) else if(QE a b c d).length=1 then 1 else 3
theorem jdl{a b c d p q:Pn}{out:List Pn}:q∈M3 a b c d out p↔q∈out\/(q=p/\Kb a b c d p=true):=by
 unfold M3;split
 .rename_i h;simp only[jlK] at h;simp[h.2]
 .rename_i h;simp only[jlK,jmo,not_and,Bool.not_eq_true] at h;constructor
  .exact .inl
  .rintro(h1|⟨rfl,h1⟩)
   .exact h1
   .by_cases hc:out.contains q=true
    .simpa using hc
    .rw[h (by simpa using hc)] at h1;cases h1
theorem zd{a b c d p:Pn}{out:List Pn}(h:out.Nodup):(M3 a b c d out p).Nodup:=by
 unfold M3;split
 .rename_i h';simp only[jlK,jmo] at h';rw[List.nodup_append];exact⟨h,by simp,λx hx y hy e=>by simp at hy;subst hy;subst e;have:=h'.1;simp at this;exact this hx⟩
 .exact h
theorem q7{a b c d q:Pn}:q∈QE a b c d↔(q=a\/q=b\/q=c\/q=d)/\Kb a b c d q=true:=by
 unfold QE;simp only[jdl,jmi,false_or];constructor
 .rintro(((⟨rfl,h⟩|⟨rfl,h⟩)|⟨rfl,h⟩)|⟨rfl,h⟩)
  .exact⟨.inl rfl,h⟩
  .exact⟨.inr (.inl rfl),h⟩
  .exact⟨.inr (.inr (.inl rfl)),h⟩
  .exact⟨.inr (.inr (.inr rfl)),h⟩
 .rintro⟨rfl|rfl|rfl|rfl,h⟩
  .exact .inl (.inl (.inl ⟨rfl,h⟩))
  .exact .inl (.inl (.inr ⟨rfl,h⟩))
  .exact .inl (.inr ⟨rfl,h⟩)
  .exact .inr ⟨rfl,h⟩
theorem WD(a b c d:Pn):(QE a b c d).Nodup:=zd (zd (zd (zd List.nodup_nil)))
theorem jhw{l:List Pn}(h:∀q,q∉l):l.length=0:=by
 cases l with
 |nil=>rfl
 |cons a r=>exact absurd (jl7) (h a)
theorem jkX{l:List Pn}{p:Pn}(hn:l.Nodup)(hp:p∈l)(h:∀q∈l,q=p):l=[p]:=by
 match l,hn,hp,h with
 |[x],_,_,h=>rw[h x (by simp)]
 |x::y::r,hn,_,h=>
  have h1:=h x (by simp);have h2:=h y (by simp)
  rw[h1,h2] at hn;simp at hn
theorem jlu{l:List Pn}{p q:Pn}(hp:p∈l)(hq:q∈l)(hne:p≠q):¬l.length=0/\¬l.length=1:=by
 match l,hp,hq with
 |[x],hp,hq=>simp at hp hq;exact absurd (hp.trans hq.symm) hne
 |x::y::r,_,_=>simp
theorem Ul(a b:Pn):uV a b a=true:=by rw[KM];simp only[tn,kU];refine⟨by grind,?_⟩;omega
theorem UX(a b:Pn):uV a b b=true:=by rw[KM];simp only[tn,kU];refine⟨by grind,?_⟩;omega
theorem jbg{n:Int}:(wP n==0)=true↔n=0:=by have:=UE n;simp;omega
theorem xv{m n:Int}:wP m*wP n<0↔(m<0/\0<n)\/(0<m/\n<0):=by
 rcases UE m with⟨h1,e1⟩|⟨h1,e1⟩|⟨h1,e1⟩<;>rcases UE n with⟨h2,e2⟩|⟨h2,e2⟩|⟨h2,e2⟩<;>rw[e1,e2]<;>omega
theorem Iv{a b c d:Pn}(ha:bd2 a)(hb:bd2 b)(hc:bd2 c)(hd:bd2 d):
  (yV a b c d).1=Qi a b c d/\((yV a b c d).1=1->QE a b c d=[(yV a b c d).2]):=by
 unfold yV Qi;by_cases hf:GX a b c d=true
 .rw[if_pos hf];simp only[GX,jlK,jbg] at hf;obtain⟨⟨⟨f1,f2⟩,f3⟩,f4⟩:=hf;have f5:tn a b a=0:=by simp only[tn,kU];grind
  have f6:tn a b b=0:=by simp only[tn,kU];grind
  have f7:tn c d c=0:=by simp only[tn,kU];grind
  have f8:tn c d d=0:=by simp only[tn,kU];grind
  obtain⟨l1,l2,l3⟩:=YO ha hb;obtain⟨l4,l5,l6⟩:=YO hc hd;obtain⟨g1,g2,g3⟩:=YL ha hb;obtain⟨g4,g5,g6⟩:=YL hc hd;obtain⟨m1,m2,m3⟩:=YL l2 l5;obtain⟨m4,m5,m6⟩:=YO g2 g5;have hns:qC a b c d=false:=by simp only[qC,f1,f3];simp[wP]
  have key1:∀q,(q=a\/q=b\/q=c\/q=d)->(Kb a b c d q=true↔key (Yr a b c d)<=key q/\key q<=key (UN a b c d)):=by
   intro q hq;have hqb:bd2 q:=by rcases hq with rfl|rfl|rfl|rfl<;>assumption
   have t1:tn a b q=0:=by rcases hq with rfl|rfl|rfl|rfl<;>assumption
   have t2:tn c d q=0:=by rcases hq with rfl|rfl|rfl|rfl<;>assumption
   simp only[Kb,jlK];rw[jfn ha hb hqb t1,jfn hc hd hqb t2];show _↔key (G0 (G8 a b) (G8 c d))<=key q/\key q<=key (G8 (G0 a b) (G0 c d))
   omega
  have hlow:Yr a b c d=a\/Yr a b c d=b\/Yr a b c d=c\/Yr a b c d=d:=by
   unfold Yr;rcases m3 with e|e<;>rw[e]
   .rcases l3 with e|e<;>rw[e]<;>simp
   .rcases l6 with e|e<;>rw[e]<;>simp
  have hhigh:UN a b c d=a\/UN a b c d=b\/UN a b c d=c\/UN a b c d=d:=by
   unfold UN;rcases m6 with e|e<;>rw[e]
   .rcases g3 with e|e<;>rw[e]<;>simp
   .rcases g6 with e|e<;>rw[e]<;>simp
  have hlb:bd2 (Yr a b c d):=m2;have hhb:bd2 (UN a b c d):=m5
  rw[Bo hlb hhb];rcases UE (key (Yr a b c d)-key (UN a b c d)) with⟨k1,e⟩|⟨k1,e⟩|⟨k1,e⟩
  .rw[e,if_neg Om,if_pos rfl];have h1:Yr a b c d∈QE a b c d:=q7.2 ⟨hlow,(key1 _ hlow).2 Om⟩
   have h2:UN a b c d∈QE a b c d:=q7.2 ⟨hhigh,(key1 _ hhigh).2 Om⟩;obtain⟨n1,n2⟩:=jlu h1 h2 (λe=>by rw[e] at k1;omega);rw[if_neg n1,if_neg n2];exact⟨rfl,λh=>absurd h (by simp)⟩
  .rw[e,if_pos rfl];have h1:Yr a b c d∈QE a b c d:=q7.2 ⟨hlow,(key1 _ hlow).2 Om⟩
   have hl:=jkX (WD a b c d) h1 λq hq=>by
    obtain⟨hq1,hq2⟩:=q7.1 hq;have hqb:bd2 q:=by rcases hq1 with rfl|rfl|rfl|rfl<;>assumption
    have:=(key1 q hq1).1 hq2;exact jht hqb hlb Om
   rw[hl];exact⟨rfl,λ_=>rfl⟩
  .rw[e,if_neg Om,if_neg Om];have hl:=jhw (l:=QE a b c d) λq hq=>by
    obtain⟨hq1,hq2⟩:=q7.1 hq;have:=(key1 q hq1).1 hq2
    omega
   rw[if_pos hl,hns];exact⟨rfl,λh=>absurd h (by simp)⟩
 .rw[if_neg hf];have huniq:∀p q,Kb a b c d p=true->Kb a b c d q=true->p=q:=by
   intro p q hp hq;simp only[Kb,jlK] at hp hq;by_cases e:p=q
   .exact e
   .obtain⟨t1,t2,t3,t4⟩:=jky hp.1 hp.2 hq.1 hq.2 e;exact absurd (by simp only[GX,jlK,jbg];exact⟨⟨⟨t1,t2⟩,t3⟩,t4⟩) hf
  have one:∀p,(p=a\/p=b\/p=c\/p=d)->Kb a b c d p=true->QE a b c d=[p]:=λp hp hb=>
   jkX (WD a b c d) (q7.2 ⟨hp,hb⟩) λq hq=>huniq q p (q7.1 hq).2 hb
  by_cases hs:qC a b c d=true
  .rw[if_pos hs];have hs':=hs
   simp only[qC,jlK,decide_eq_true_eq,xv] at hs';have hl:=jhw (l:=QE a b c d) λq hq=>by
    obtain⟨hq1,hq2⟩:=q7.1 hq;simp only[Kb,jlK,KM] at hq2;rcases hq1 with rfl|rfl|rfl|rfl<;>omega
   rw[if_pos hl,if_pos hs];exact⟨rfl,λh=>absurd h (by simp)⟩
  .rw[if_neg hs];by_cases h1:uV a b c=true
   .rw[if_pos h1,one c (by simp) (by simp[Kb,h1,Ul])];exact⟨rfl,λ_=>rfl⟩
   rw[if_neg h1];by_cases h2:uV a b d=true
   .rw[if_pos h2,one d (by simp) (by simp[Kb,h2,UX])];exact⟨rfl,λ_=>rfl⟩
   rw[if_neg h2];by_cases h3:uV c d a=true
   .rw[if_pos h3,one a (by simp) (by simp[Kb,h3,Ul])];exact⟨rfl,λ_=>rfl⟩
   rw[if_neg h3];by_cases h4:uV c d b=true
   .rw[if_pos h4,one b (by simp) (by simp[Kb,h4,UX])];exact⟨rfl,λ_=>rfl⟩
   rw[if_neg h4];have hl:=jhw (l:=QE a b c d) λq hq=>by
    obtain⟨hq1,hq2⟩:=q7.1 hq;simp only[Kb,jlK] at hq2;rcases hq1 with rfl|rfl|rfl|rfl
    .exact h3 hq2.2
    .exact h4 hq2.2
    .exact h1 hq2.1
    .exact h2 hq2.1
   rw[if_pos hl,if_neg hs];exact⟨rfl,λh=>absurd h (by simp)⟩
def vQ(a b c d:Pn):Bool:=decide (max a.1 b.1<min c.1 d.1)||decide (max c.1 d.1<min a.1 b.1)||decide (max a.2 b.2<min c.2 d.2)||decide (max c.2 d.2<min a.2 b.2)
theorem jjX{s t x y z:Int}(hs:s<0)(ht:0<t)(hx:x<z)(hy:y<z):t*x-s*y<(t-s)*z:=by
 have h1:t*x<t*z:=jnG hx ht;have h2: -s*y< -s*z:=jnG hy Om
 grind
theorem jjW{s t x y z:Int}(hs:s<0)(ht:0<t)(hx:z<=x)(hy:z<=y):(t-s)*z<=t*x-s*y:=by
 have h1:t*z<=t*x:=jmr hx Om;have h2: -s*z≤-s*y:=jmr hy Om
 grind
theorem xM{t1 t2 t3 t4 x y z u m:Int}(h12:(t1<0/\0<t2)\/(0<t1/\t2<0))(h34:(t3<0/\0<t4)\/(0<t3/\t4<0))
  (e:(t4*x-t3*y)*(t2-t1)=(t2*z-t1*u)*(t4-t3)):¬(x<m/\y<m/\m<=z/\m<=u):=by
 rintro⟨h1,h2,h3,h4⟩;have key:∀s t s' t':Int,s<0->0<t->s'<0->0<t'->(t'*x-s'*y)*(t-s)=(t*z-s*u)*(t'-s')->False:=by
  intro s t s' t' a1 a2 a3 a4 e;have k1:=jjX a3 a4 h1 h2
  have k2:=jjW a1 a2 h3 h4;have k3:(t'*x-s'*y)*(t-s)<((t'-s')*m)*(t-s):=jl6 k1 Om
  have k4:((t-s)*m)*(t'-s')<=(t*z-s*u)*(t'-s'):=jlO k2 Om;have k5:((t'-s')*m)*(t-s)=((t-s)*m)*(t'-s'):=by grind
  omega
 rcases h12 with⟨a1,a2⟩|⟨a1,a2⟩<;>rcases h34 with⟨a3,a4⟩|⟨a3,a4⟩
 .exact key t1 t2 t3 t4 a1 a2 a3 a4 e
 .exact key t1 t2 (-t3) (-t4) a1 a2 Om Om (by grind)
 .exact key (-t1) (-t2) t3 t4 Om Om a3 a4 (by grind)
 .exact key (-t1) (-t2) (-t3) (-t4) Om Om Om Om (by grind)
theorem XL{a b c d:Pn}(h:vQ a b c d=true):Qi a b c d=0:=by
 have hne:∀q,Kb a b c d q=false:=by
  intro q;cases hq:Kb a b c d q
  .rfl
  .simp only[Kb,jlK,KM] at hq;simp only[vQ,jml,decide_eq_true_eq] at h;omega
 have hl:=jhw (l:=QE a b c d) λq hq=>by
  have:=(q7.1 hq).2;rw[hne] at this;cases this
 unfold Qi;rw[if_pos hl,if_neg];intro hs;simp only[qC,jlK,decide_eq_true_eq,xv] at hs;obtain⟨h1,h2⟩:=hs;simp only[vQ,jml,decide_eq_true_eq] at h;obtain⟨a1,a2⟩:=a;obtain⟨b1,b2⟩:=b;obtain⟨c1,c2⟩:=c;obtain⟨d1,d2⟩:=d;simp only[tn] at h1 h2;simp only at h;have ex:(kU c1 c2 d1 d2 b1 b2*a1-kU c1 c2 d1 d2 a1 a2*b1)*(kU a1 a2 b1 b2 d1 d2-kU a1 a2 b1 b2 c1 c2)=(kU a1 a2 b1 b2 d1 d2*c1-kU a1 a2 b1 b2 c1 c2*d1)*(kU c1 c2 d1 d2 b1 b2-kU c1 c2 d1 d2 a1 a2):=by
  simp only[kU];grind
 have ey:(kU c1 c2 d1 d2 b1 b2*a2-kU c1 c2 d1 d2 a1 a2*b2)*(kU a1 a2 b1 b2 d1 d2-kU a1 a2 b1 b2 c1 c2)=(kU a1 a2 b1 b2 d1 d2*c2-kU a1 a2 b1 b2 c1 c2*d2)*(kU c1 c2 d1 d2 b1 b2-kU c1 c2 d1 d2 a1 a2):=by
  simp only[kU];grind
 rcases h with((h|h)|h)|h
 .exact xM (m:=min c1 d1) h1 h2 ex Om
 .exact xM (m:=min a1 b1) h2 h1 ex.symm Om
 .exact xM (m:=min c2 d2) h1 h2 ey Om
 .exact xM (m:=min a2 b2) h2 h1 ey.symm Om
def wO(a b c d:Pn):Bool:=
 if vQ a b c d=true then true
 else if Qi a b c d=2 then false
 else if Qi a b c d=1 then !(decide (a≠c) &&decide (a≠d) &&decide (b≠c) &&decide (b≠d))
 else if Qi a b c d=3 then decide ((a=c/\b=d)\/(a=d/\b=c))
 else true
theorem NV(a b c d:Pn):Qi a b c d=0\/Qi a b c d=1\/Qi a b c d=2\/Qi a b c d=3:=by
 unfold Qi;split<;>(try split)<;>simp
abbrev pV(p:Pn):Value:=.agg #[.int .i64 p.1,.int .i64 p.2]
theorem VL{p:Pn}(h:bd2 p):Uo p.1/\Uo p.2:=by
 obtain⟨⟨h1,h2⟩,h3,h4⟩:=h;exact⟨⟨by omega,by omega⟩,by omega,by omega⟩
theorem Mf(a b c:Pn)(w:World)(ha:bd2 a)(hb:bd2 b)(hc:bd2 c):Calls Tryz.prog 77 #[pV a,pV b,pV c] w λe w'=>e=.returned (.int .i64 (tn a b c))/\Over w w':=by
 obtain⟨a1,a2⟩:=VL ha;obtain⟨b1,b2⟩:=VL hb;obtain⟨c1,c2⟩:=VL hc;exact H1 a.1 a.2 b.1 b.2 c.1 c.2 w a1.1 a1.2 a2.1 a2.2 b1.1 b1.2 b2.1 b2.2 c1.1 c1.2 c2.1 c2.2
theorem OJ(a b c:Pn)(w:World)(ha:bd2 a)(hb:bd2 b)(hc:bd2 c):Calls Tryz.prog 75 #[pV a,pV b,pV c] w λe w'=>e=.returned (.bool (uV a b c))/\Over w w':=by
 obtain⟨a1,a2⟩:=VL ha;obtain⟨b1,b2⟩:=VL hb;obtain⟨c1,c2⟩:=VL hc;exact Yt a.1 a.2 b.1 b.2 c.1 c.2 w a1 a2 b1 b2 c1 c2
theorem ZY(a b:Pn)(w:World)(ha:bd2 a)(hb:bd2 b):Calls Tryz.prog 127 #[pV a,pV b] w λe w'=>e=.returned (.int .i64 (GS a b))/\Over w w':=by
 obtain⟨⟨a1,a2⟩,a3,a4⟩:=ha;obtain⟨⟨b1,b2⟩,b3,b4⟩:=hb;refine Jm (m:=22) (Tryz.func127) J J (lb J) ?_;refine S3 ?_;refine aX (λb1=>?_);refine N1 ?_;refine aX (λb2=>?_);refine N11 ?_;refine cZ (λc1=>?_) (λc1=>?_)
 .refine S7 ?_;refine a9 (jT kv J J (λw h=>Calls.still (KX _ w))) ?_;refine S4 ?_;refine jK J (.tmp J) ?_;intro w' hs;exact⟨Y1 (by simp[GS,c1]),hs.fin⟩
 .refine S9 ?_;refine a9 (jT kv J J (λw h=>Calls.still (KX _ w))) ?_;refine S3 ?_;refine jK J (.tmp J) ?_;intro w' hs;exact⟨Y1 (by simp[GS,c1]),hs.fin⟩
theorem X6(a b:Pn)(w:World)(ha:bd2 a)(hb:bd2 b):Calls Tryz.prog 126 #[pV a,pV b] w λe w'=>e=.returned (pV (G8 a b))/\Over w w':=by
 refine Jm (m:=11) (Tryz.func126) J J (lb J) ?_;refine S3 ?_;refine aX (λb1=>?_);refine N1 ?_;refine aX (λb2=>?_);refine N1 ?_;refine aL (λb3=>?_);refine N6 ?_;refine a9 (jT W5 J J (λw h=>ZY a b w ha hb)) ?_;refine S2 ?_;refine cZ (λc1=>?_) (λc1=>?_)
 .refine S8 ?_;refine jK J (qj (k:=2) J jk J J) ?_;intro w' hs;exact⟨by rw[G8,if_pos c1],hs.fin⟩
 .refine S9 ?_;refine jK J (qj (k:=2) J jk J J) ?_;intro w' hs;exact⟨by rw[G8,if_neg Om],hs.fin⟩
theorem Z4(a b:Pn)(w:World)(ha:bd2 a)(hb:bd2 b):Calls Tryz.prog 125 #[pV a,pV b] w λe w'=>e=.returned (pV (G0 a b))/\Over w w':=by
 refine Jm (m:=11) (Tryz.func125) J J (lb J) ?_;refine S3 ?_;refine aX (λb1=>?_);refine N1 ?_;refine aX (λb2=>?_);refine N1 ?_;refine aL (λb3=>?_);refine N6 ?_;refine a9 (jT W5 J J (λw h=>ZY a b w ha hb)) ?_;refine S2 ?_;refine cZ (λc1=>?_) (λc1=>?_)
 .refine S8 ?_;refine jK J (qj (k:=2) J jk J J) ?_;intro w' hs;exact⟨by rw[G0,if_pos c1],hs.fin⟩
 .refine S9 ?_;refine jK J (qj (k:=2) J jk J J) ?_;intro w' hs;exact⟨by rw[G0,if_neg Om],hs.fin⟩
theorem jkr(n:Int): -1<=wP n/\wP n<=1:=by have:=UE n;omega
theorem zT(m n:Int): -1<=wP m*wP n/\wP m*wP n<=1:=by
 rcases UE m with⟨_,e1⟩|⟨_,e1⟩|⟨_,e1⟩<;>rcases UE n with⟨_,e2⟩|⟨_,e2⟩|⟨_,e2⟩<;>rw[e1,e2]<;>omega
abbrev mtV(r:Int×Pn):Value:=.tuple #[.int .i64 r.1,pV r.2]
theorem He(k:Int)(p:Pn){r:Int×Pn}(h:r=(k,p)):Ending.returned (.tuple #[.int .i64 k,pV p])=Ending.returned (mtV r):=by rw[h]
theorem NX(a b c d:Pn)(w:World)(ha:bd2 a)(hb:bd2 b)(hc:bd2 c)(hd:bd2 d):Calls Tryz.prog 106 #[pV a,pV b,pV c,pV d] w λe w'=>e=.returned (mtV (yV a b c d))/\Over w w':=by
 have m1:=zT (tn a b c) (tn a b d);have m2:=zT (tn c d a) (tn c d b)
 have l1:=(YO ha hb).2.1;have l2:=(YO hc hd).2.1
 have g1:=(YL ha hb).2.1;have g2:=(YL hc hd).2.1
 refine Jm (m:=110) (Tryz.func106) J J (lb J) ?_;refine S3 ?_;refine aX (λb1=>?_);refine N1 ?_;refine aX (λb2=>?_);refine N1 ?_;refine aX (λb3=>?_);refine N1 ?_;refine aX (λb4=>?_);refine N2 ?_;refine aL (λb5=>?_);refine N3 ?_;refine JY 24 ?_;refine dK 0 ?_;refine dK 1 ?_;refine dK 2 ?_;refine dZ 3 J (jT K8 J J (λw h=>Mf _ _ _ w (by assumption) (by assumption) (by assumption))) ?_;refine dZ 4 J (jT kv J J (λw h=>Calls.still (KX _ w))) ?_;refine dK 5 ?_;refine dK 6 ?_;refine dK 7 ?_;refine dZ 8 J (jT K8 J J (λw h=>Mf _ _ _ w (by assumption) (by assumption) (by assumption))) ?_;refine dZ 9 J (jT kv J J (λw h=>Calls.still (KX _ w))) ?_;refine dK 10 ?_;refine dK 11 ?_;refine dK 12 ?_;refine dZ 13 J (jT K8 J J (λw h=>Mf _ _ _ w (by assumption) (by assumption) (by assumption))) ?_;refine dZ 14 J (jT kv J J (λw h=>Calls.still (KX _ w))) ?_;refine dK 15 ?_;refine dK 16 ?_;refine dK 17 ?_;refine dZ 18 J (jT K8 J J (λw h=>Mf _ _ _ w (by assumption) (by assumption) (by assumption))) ?_;refine dZ 19 J (jT kv J J (λw h=>Calls.still (KX _ w))) ?_;refine dK 20 ?_;refine dK 21 ?_;refine dK 22 ?_;refine dK 23 ?_;refine JK Kr ?_;refine S2 ?_;refine qH [(49,.bool (GX a b c d))] (kK [4,5,6,7,8,9,10,11,12,13]) (λL h_2=>?_) ?_
 .refine S4 ?_;refine cV 38 (λg1=>?_) (λg1=>?_)
  .refine S6 ?_;refine cV 42 (λg2=>?_) (λg2=>?_)
   .refine S6 ?_;refine cV 46 (λg3=>?_) (λg3=>?_)
    .refine S6 ?_;exact Jx h_2 ⟨vb (by simp[GX, *]),sz⟩ (u9 J)
    .refine S4 ?_;exact Jx h_2 ⟨vb (by simp[GX, *]),sz⟩ (u9 J)
   .refine S8 ?_;exact Jx h_2 ⟨vb (by simp[GX, *]),sz⟩ (u9 J)
  .refine S12 ?_;exact Jx h_2 ⟨vb (by simp[GX, *]),sz⟩ (u9 J)
 .refine v9 ?_;refine cZ (λc1=>?_) (λc1=>?_)
  .refine S2 ?_;refine JY 9 ?_;refine dK 0 ?_;refine dK 1 ?_;refine dZ 2 J (jT uU J J (λw h=>X6 _ _ w ha hb)) ?_;refine dK 3 ?_;refine dK 4 ?_;refine dZ 5 J (jT uU J J (λw h=>X6 _ _ w hc hd)) ?_;refine dZ 6 J (jT W8 J J (λw h=>Z4 _ _ w l1 l2)) ?_;refine qg (i:=7) J Dc Kr J ?_;refine aL (λb6=>?_);refine n9 ?_;refine JS (u9 J) ?_;refine qg (i:=8) J Dc Kr J ?_;refine S1 ?_;refine JS (u9 J) ?_;refine JK Kr ?_;refine S3 ?_;refine JY 9 ?_;refine dK 0 ?_;refine dK 1 ?_;refine dZ 2 J (jT W8 J J (λw h=>Z4 _ _ w ha hb)) ?_;refine dK 3 ?_;refine dK 4 ?_;refine dZ 5 J (jT W8 J J (λw h=>Z4 _ _ w hc hd)) ?_;refine dZ 6 J (jT uU J J (λw h=>X6 _ _ w g1 g2)) ?_;refine qg (i:=7) J Dc Kr J ?_;refine aL (λb7=>?_);refine n9 ?_;refine JS (u9 J) ?_;refine qg (i:=8) J Dc Kr J ?_;refine S1 ?_;refine JS (u9 J) ?_;refine JK Kr ?_;refine S6 ?_;refine a9 (jT W5 J J (λw h=>ZY _ _ w (YL l1 l2).2.1 (YO g1 g2).2.1)) ?_;refine S7 ?_;refine cZ (λc2=>?_) (λc2=>?_)
   .refine S2 ?_;refine Qy 3 [4] ?_;refine dK 0 ?_;refine dK 1 ?_;refine qg (i:=2) J Dc Kr J ?_;refine S1 ?_;refine JS (uw [4] J) ?_;refine JK Kr ?_;refine S5 ?_;refine qG J (.tmp J) (qj (k:=4) J jk J J) ?_;intro w' hs;exact⟨He 1 (Yr a b c d) (by rw[yV,if_pos c1,if_pos (show GS (Yr a b c d) (UN a b c d)=0 from c2)]),hs.fin⟩
   .refine S5 ?_;refine cZ (λc3=>?_) (λc3=>?_)
    .refine S2 ?_;refine Qy 3 [4] ?_;refine dK 0 ?_;refine dK 1 ?_;refine qg (i:=2) J Dc Kr J ?_;refine S1 ?_;refine JS (uw [4] J) ?_;refine JK Kr ?_;refine S5 ?_;refine qG J (.tmp J) (qj (k:=4) J jk J J) ?_;intro w' hs;exact⟨He 3 (Yr a b c d) (by rw[yV,if_pos c1,if_neg (show¬GS (Yr a b c d) (UN a b c d)=0 from c2),if_pos (show GS (Yr a b c d) (UN a b c d)= -1 from c3)]),hs.fin⟩
    .refine S5 ?_;refine a9 (JD J J (US)) ?_;refine S6 ?_;refine qG J (.tmp J) (qj (k:=4) J jk J J) ?_;intro w' hs;exact⟨He 0 (0,0) (by rw[yV,if_pos c1,if_neg (show¬GS (Yr a b c d) (UN a b c d)=0 from c2),if_neg (show¬GS (Yr a b c d) (UN a b c d)= -1 from c3)]),hs.fin⟩
  .refine S3 ?_;refine qH [(83,.bool (qC a b c d))] (kK [4,5,6,7,8,9]) (λL h_11=>?_) ?_
   .refine S6 ?_;refine cV 78 (λg4=>?_) (λg4=>?_)
    .refine S10 ?_;exact Jx h_11 ⟨vb (by simp[qC, *]<;>omega),sz⟩ (u9 J)
    .refine S6 ?_;exact Jx h_11 ⟨vb (by simp[qC, *]<;>omega),sz⟩ (u9 J)
   .refine v9 ?_;refine cZ (λc4=>?_) (λc4=>?_)
    .refine S2 ?_;refine a9 (JD J J (US)) ?_;refine S6 ?_;refine qG J (.tmp J) (qj (k:=4) J jk J J) ?_;intro w' hs;exact⟨He 2 (0,0) (by rw[yV,if_neg (by simp[c1]),if_pos c4]),hs.fin⟩
    .refine S9 ?_;refine a9 (jT KG J J (λw h=>OJ _ _ _ w (by assumption) (by assumption) (by assumption))) ?_;refine S2 ?_;refine cZ (λc5=>?_) (λc5=>?_)
     .refine S2 ?_;refine Qy 3 [4] ?_;refine dK 0 ?_;refine dK 1 ?_;refine qg (i:=2) J Dc Kr J ?_;refine S1 ?_;refine JS (uw [4] J) ?_;refine JK Kr ?_;refine S4 ?_;refine qG J (.tmp J) (qj (k:=4) J jk J J) ?_;intro w' hs;exact⟨He 1 c (by rw[yV,if_neg (by simp[c1]),if_neg (by simp[c4]),if_pos c5]),hs.fin⟩
     .refine S5 ?_;refine a9 (jT KG J J (λw h=>OJ _ _ _ w (by assumption) (by assumption) (by assumption))) ?_;refine S2 ?_;refine cZ (λc6=>?_) (λc6=>?_)
      .refine S2 ?_;refine Qy 3 [4] ?_;refine dK 0 ?_;refine dK 1 ?_;refine qg (i:=2) J Dc Kr J ?_;refine S1 ?_;refine JS (uw [4] J) ?_;refine JK Kr ?_;refine S4 ?_;refine qG J (.tmp J) (qj (k:=4) J jk J J) ?_;intro w' hs;exact⟨He 1 d (by rw[yV,if_neg (by simp[c1]),if_neg (by simp[c4]),if_neg (by simp[c5]),if_pos c6]),hs.fin⟩
      .refine S5 ?_;refine a9 (jT KG J J (λw h=>OJ _ _ _ w (by assumption) (by assumption) (by assumption))) ?_;refine S2 ?_;refine cZ (λc7=>?_) (λc7=>?_)
       .refine S2 ?_;refine Qy 3 [4] ?_;refine dK 0 ?_;refine dK 1 ?_;refine qg (i:=2) J Dc Kr J ?_;refine S1 ?_;refine JS (uw [4] J) ?_;refine JK Kr ?_;refine S4 ?_;refine qG J (.tmp J) (qj (k:=4) J jk J J) ?_;intro w' hs;exact⟨He 1 a (by rw[yV,if_neg (by simp[c1]),if_neg (by simp[c4]),if_neg (by simp[c5]),if_neg (by simp[c6]),if_pos c7]),hs.fin⟩
       .refine S5 ?_;refine a9 (jT KG J J (λw h=>OJ _ _ _ w (by assumption) (by assumption) (by assumption))) ?_;refine S2 ?_;refine cZ (λc8=>?_) (λc8=>?_)
        .refine S2 ?_;refine Qy 3 [4] ?_;refine dK 0 ?_;refine dK 1 ?_;refine qg (i:=2) J Dc Kr J ?_;refine S1 ?_;refine JS (uw [4] J) ?_;refine JK Kr ?_;refine S4 ?_;refine qG J (.tmp J) (qj (k:=4) J jk J J) ?_;intro w' hs;exact⟨He 1 b (by rw[yV,if_neg (by simp[c1]),if_neg (by simp[c4]),if_neg (by simp[c5]),if_neg (by simp[c6]),if_neg (by simp[c7]),if_pos c8]),hs.fin⟩
        .refine S5 ?_;refine a9 (JD J J (US)) ?_;refine S5 ?_;refine qG J (.tmp J) (qj (k:=4) J jk J J) ?_;intro w' hs;exact⟨He 0 (0,0) (by rw[yV,if_neg (by simp[c1]),if_neg (by simp[c4]),if_neg (by simp[c5]),if_neg (by simp[c6]),if_neg (by simp[c7]),if_neg (by simp[c8])]),hs.fin⟩
end Go.Proofs.YtjbahemkhphndaaGreat
