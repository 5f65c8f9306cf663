import Derived.Test.YtjbahemkhphndaaGreatNFit
import Derived.Test.YtjbahemkhphndaaGreatNSect4
import Derived.Test.YtjbahemkhphndaaGreatNCmbS
set_option linter.unusedVariables false
set_option linter.unusedSimpArgs false
namespace Go.Proofs.YtjbahemkhphndaaGreat
open Go Go.RowKit
variable{K:List Leg}{f:Nat->Int}{i k:Nat}{p:Leg}{rs:List jI}{y:Int}
def YR(e:Leg):Int×Int:=(e.ax+e.bx,e.ay+e.b_y)
def offB(xs:jI)(e:Leg):Bool:= !ZN true (Jh xs) (YR e).1 (YR e).2
def yG(xs ys:jI):Bool:=match (Jh ys).find? (offB xs) with
 |some e=> !(Mi true (Jh xs) (YR e).1 (YR e).2==0)
 |none=>false
theorem jgH{xs ys:jI}(hk:k<(Jh ys).length)(hn:∀j,j<k->offB xs (lg (Jh ys) j)=false)(h1:offB xs (lg (Jh ys) k)=true):
  (!(Mi true (Jh xs) (YR (lg (Jh ys) k)).1 (YR (lg (Jh ys) k)).2==0))=yG xs ys:=by
 have:(Jh ys).find? (offB xs)=some (lg (Jh ys) k):=List.find?_eq_some_iff_getElem.2 ⟨h1,k,hk,uu hk,λj hj=>by rw[uu Om,hn j hj];rfl⟩;rw[yG,this]
theorem jbL{xs ys:jI}(hn:∀j,j<(Jh ys).length->offB xs (lg (Jh ys) j)=false):false=yG xs ys:=by
 have:(Jh ys).find? (offB xs)=none:=List.find?_eq_none.2 λe he=>by
  obtain⟨j,hj,rfl⟩:=jmq he;rw[uu hj,hn j hj];simp
 rw[yG,this]
def Qh(rs:List jI)(i:Nat):Nat->Int
 |0=> -1
 |k+1=>if(k≠i/\yG (rg rs k) (rg rs i)=true)/\(Qh rs i k<0\/yG (rg rs (Qh rs i k).toNat) (rg rs k)=true) then(k:Int) else Qh rs i k
theorem Sm(rs:List jI)(i:Nat):∀k:Nat,-1<=Qh rs i k/\Qh rs i k<k
 |0=>by simp[Qh]
 |k+1=>by
  have:=Sm rs i k;unfold Qh;split<;>omega
theorem OM(h1:k≠i)(h2:yG (rg rs k) (rg rs i)=true)(h3:Qh rs i k<0\/yG (rg rs (Qh rs i k).toNat) (rg rs k)=true):Qh rs i (k+1)=k:=if_pos ⟨⟨h1,h2⟩,h3⟩
theorem Dn(h:¬((k≠i/\yG (rg rs k) (rg rs i)=true)/\(Qh rs i k<0\/yG (rg rs (Qh rs i k).toNat) (rg rs k)=true))):Qh rs i (k+1)=Qh rs i k:=if_neg h
def uX(rs:List jI)(k:Nat):List Int:=(List.range k).map λi=>Qh rs i rs.length
theorem jcC(rs:List jI)(k:Nat):uX rs (k+1)=uX rs k++[Qh rs k rs.length]:=by
 simp[uX,jm3]
theorem Dm(rs:List jI)(k:Nat):(uX rs k).length=k:=by simp[uX]
theorem jcY{l:Leg}{a b:Bool}(h:l∈zS p a b):(l=p/\a=true/\b=false)\/(l=qW p/\a=false/\b=true):=by
 unfold zS at h;cases a<;>cases b<;>simp at h<;>simp[h]
theorem jji{E F B:List Leg}{how:Int}(hE:Keys K E)(hF:Keys K F)(hB:B=Va K E F how)(hP:Yz B):Bdr (KF B) B:=by
 have hKB:Keys K B:=hB▸hE.brd hF;have hne:∀l∈B,lA l≠lB l:=λl hl=>by
  have hk:=hKB.all l hl;have:=uN hKB hk
  rcases kb (e:=l) with c|c
  .rw[c];exact this
  .rw[c];exact λk=>this k.symm
 have hk:=RL (zC B) (λq=>yk) hne hP (λe he=>he) hKB.close;have hP2:Yz (KF B):=LU hP λe he=>by
  obtain⟨e0,he0,rfl⟩:=yk.1 he;exact⟨e0,he0,by unfold qh;split;exact .inr rfl;exact .inl rfl⟩
 refine⟨hk,λk hk2=>?_,λe he=>?_,λv=>?_⟩
 .obtain⟨e,he,rfl⟩:=yk.1 hk2;rcases kb (e:=e) with c|c
  .exact .inl (c▸he)
  .exact .inr (c▸he)
 .have he2:=he;rw[hB] at he2;obtain⟨p,hp,hl⟩:=Cg he2;obtain⟨s1,s2⟩:=FY (how:=how) hE hF hp;rw[<-hB] at s1 s2;obtain⟨k1,k2,k3,k4⟩:=zG hKB hp;rcases jcY hl with⟨rfl,c1,c2⟩|⟨rfl,c1,c2⟩
  .rw[c1] at s1;rw[c2] at s2;exact⟨k1.trans s1,k3.trans s2⟩
  .rw[c1] at s1;rw[c2] at s2;exact⟨k2.trans s2,k4.trans s1⟩
 .have pn:=λp (hp:p∈KF B)=>uN hk hp
  refine⟨λp hp q hq h1 h2 hn hs=>?_,λp hp q hq h1 h2 hs=>?_,λp hp q hq h1 h2 hn hs=>?_⟩
  .have:=Hi (hP2 p hp q hq) (o:=v) (p:=lB p) (q:=lB q) (.inl ⟨h1,rfl⟩) (.inl ⟨h2,rfl⟩) (λk=>pn p hp (h1.trans k.symm)) (λk=>pn q hq (h2.trans k.symm)) hs;exact hn (UW (h1.trans h2.symm) this)
  .have:=Hi (hP2 p hp q hq) (o:=v) (p:=lB p) (q:=lA q) (.inl ⟨h1,rfl⟩) (.inr ⟨rfl,h2⟩) (λk=>pn p hp (h1.trans k.symm)) (λk=>pn q hq (k.trans h2.symm)) hs;have o1:=hk.ord p hp
   have o2:=hk.ord q hq;rw[h1,this] at o1;rw[h2] at o2;unfold vv at o1 o2;omega
  .have:=Hi (hP2 p hp q hq) (o:=v) (p:=lA p) (q:=lA q) (.inr ⟨rfl,h1⟩) (.inr ⟨rfl,h2⟩) (λk=>pn p hp (k.trans h1.symm)) (λk=>pn q hq (k.trans h2.symm)) hs;exact hn (UW this (h1.trans h2.symm))
theorem Pa{T:List jI}(hr:JG T=true)(hc:P9 T=true):∃K,Fam K T.length (λk=>Jh (rg T k))/\(∀q∈K,∃j,j<T.length/\∃e∈Jh (rg T j),qh e=q)/\∀r∈T,bare r:=by
 unfold P9 at hc;simp only[jlK,beq_iff_eq,decide_eq_true_eq] at hc;obtain⟨c1,c2⟩:=hc;obtain⟨e1,e2⟩:=EZ (how:=1) hr (show JG []=true from rfl) rfl;rw[e2] at c1;rw[e1] at c2;obtain⟨hf,hg,e3⟩:=Rr c1;rw[c2] at e3;simp only[UL,jlK,decide_eq_true_eq] at hf;have hcm:CmOk T []:=⟨hr,rfl,hf.1⟩
 have hTw:=hcm.two hf.2.1 hf.2.2;have hPr:=hcm.pair hf.2.1 hf.2.2
 obtain⟨k1,k2⟩:=hcm.keys hf.2.1 hf.2.2;have hB:Qp T [] 1=Va (KF (jH (Ui T [])++jH (ur T []))) (jH (Ui T [])) (jH (ur T [])) 1:=Ch _ _ _
 have hm:∀l∈Qp T [] 1,∃e∈jH (Ui T [])++jH (ur T []),(l=e\/l=qW e):=λl hl=>GP hTw hl
 have hP:Yz (Qp T [] 1):=LU hPr hm;have hBd:=jji k1 k2 hB hP
 have hTr:TrOk (Qp T [] 1):=Lj hTw hPr;have hnd:((Qp T [] 1).map qh).Nodup:=FX hTw
 have hcl:∀v,sm (λl=>Um v (lA l)-Um v (lB l)) (Qp T [] 1)=0:=λv=>by rw[hB];exact XP k1 k2 v
 have e4:T=vm (Ki (Qp T [] 1)):=e3;have hperm:(jH T).Perm (Qp T [] 1):=by
  have:=Pm (B:=Qp T [] 1) (λl hl=>hBd.neB hl) hcl
  rwa [<-e4] at this
 have hb:=Pl (B:=Qp T [] 1) (λl hl=>hBd.neB hl) hcl (by rw[<-e4];exact hr);rw[<-e4] at hb;refine⟨_,jjC hBd hTr hnd e4 hperm,λq hq=>?_,hb⟩;obtain⟨e,he,rfl⟩:=yk.1 hq;obtain⟨j,hj,hm2⟩:=(U7 T.length).1 (hperm.mem_iff.2 he);exact⟨j,hj,e,hm2,rfl⟩
section
variable{K E:List Leg}{e p:Leg}
theorem je3(h:Keys K E)(he:e∈K)(hp:p∈K)(hn:e≠p)(hl:e.ay<e.b_y):onL (tw p) (kS e) (QY e)=false:=by
 rw[jmR];intro hon;have hon:uV (lA (tw p)) (lB (tw p)) (kS e,QY e)=true:=hon
 rw[KM] at hon;obtain⟨ht,hx,hy⟩:=hon;have ht2:num (tw p) (QY e)=kS e*den (tw p):=by
  have:=tnA (tw p) (kS e,QY e);rw[ht] at this;have:0=num (tw p) (QY e)-kS e*den (tw p):=this
  omega
 have hx:min (2*p.ax) (2*p.bx)<=kS e/\kS e<=max (2*p.ax) (2*p.bx):=hx;have hy:min (2*p.ay) (2*p.b_y)<=QY e/\QY e<=max (2*p.ay) (2*p.b_y):=hy
 have op:p.ay<p.b_y\/(p.ay=p.b_y/\p.ax<p.bx):=h.ord p hp;have de:0<den e:=by unfold den;omega
 have hmy:QY e=e.ay+e.b_y:=rfl;have hmx:kS e=e.ax+e.bx:=rfl
 have half:∀Y,QY e=2*Y->2*num e Y=kS e*den e:=λY hY=>by
  have:(2*Y-2*e.ay)=den e:=by unfold den;omega
  have e1:2*num e Y=2*e.ax*den e+(e.bx-e.ax)*(2*Y-2*e.ay):=by unfold num;grind
  rw[e1,this,hmx];grind
 rcases op with op|⟨op,op2⟩
 .have dp:0<den p:=by unfold den;omega
  have dt:den (tw p)=2*den p:=vV p;by_cases c1:QY e=2*p.ay
  .have hh:=half _ c1;have e1:num (tw p) (QY e)=4*(p.ax*den p):=by rw[c1,Yv,xe]
   have e2:kS e=2*p.ax:=by
    rw[e1,dt] at ht2;have:(kS e-2*p.ax)*den p=0:=by grind
    have:=Qx dp this;omega
   refine(h.sep p hp e he (Ne.symm hn)).endA de Om Om ?_;rw[e2] at hh;grind
  .by_cases c2:QY e=2*p.b_y
   .have hh:=half _ c2;have e1:num (tw p) (QY e)=4*(p.bx*den p):=by rw[c2,Yv,Zl]
    have e2:kS e=2*p.bx:=by
     rw[e1,dt] at ht2;have:(kS e-2*p.bx)*den p=0:=by grind
     have:=Qx dp this;omega
    refine(h.sep p hp e he (Ne.symm hn)).endB de Om Om ?_;rw[e2] at hh;grind
   .have hs:=yE (h.sep e he p hp hn);have te:(tw e).ay=2*e.ay/\(tw e).b_y=2*e.b_y/\(tw p).ay=2*p.ay/\(tw p).b_y=2*p.b_y:=⟨rfl,rfl,rfl,rfl⟩
    have hL:Vy (tw e) (tw p)<QY e:=by unfold Vy;omega
    have hU:QY e<wE (tw e) (tw p):=by unfold wE;omega
    have hse:=hs.side (by rw[vV];omega) (by rw[vV];omega) Om;have hm:num (tw e) (QY e)=kS e*den (tw e):=by
     rw[vV];show(2*e.ax)*den (tw e)+(2*e.bx-2*e.ax)*(QY e-2*e.ay)=_
     rw[vV,hmy,hmx,show e.ay+e.b_y-2*e.ay=den e by unfold den;omega];grind
    have hd:K3 (tw e) (tw p) (QY e)=0:=by
     unfold K3;rw[hm,ht2];grind
    have l1:=Kf (tw e) (tw p) (Vy (tw e) (tw p)) (QY e);have l3:=Kf (tw e) (tw p) (Vy (tw e) (tw p)) (wE (tw e) (tw p))
    rw[hd] at l1;generalize K3 (tw e) (tw p) (Vy (tw e) (tw p))=a at*;generalize K3 (tw e) (tw p) (wE (tw e) (tw p))=b at*;generalize Vy (tw e) (tw p)=L at*;generalize wE (tw e) (tw p)=U at*;generalize Uc (tw e) (tw p)=s at*;generalize QY e=W at*;have main:a*(U-W)+b*(W-L)=0:=by
     have h1:b=a+s*(U-L):=l3;have h2:0=a+s*(W-L):=l1
     rw[h1];have:a= -(s*(W-L)):=by omega
     rw[this];grind
    rcases hse with⟨q1,q2,q3⟩|⟨q1,q2,q3⟩
    .have m1:=jl2 q1 (show 0<=U-W by omega);have m2:=jl2 q2 (show 0<=W-L by omega)
     have z1:=Qx (show 0<U-W by omega) (show a*(U-W)=0 by omega);have z2:=Qx (show 0<W-L by omega) (show b*(W-L)=0 by omega)
     omega
    .have m1:=jl2 (show 0≤-a by omega) (show 0<=U-W by omega);have m2:=jl2 (show 0≤-b by omega) (show 0<=W-L by omega)
     rw[jnz] at m1 m2;have z1:=Qx (show 0<U-W by omega) (show a*(U-W)=0 by omega)
     have z2:=Qx (show 0<W-L by omega) (show b*(W-L)=0 by omega);omega
 .have c1:QY e=2*p.ay:=by omega
  have hh:=half _ c1;have hf:=(h.sep p hp e he (Ne.symm hn)).flat de op Om Om
  have a1:2*p.ax<=kS e/\kS e<=2*p.bx:=by omega
  have m1:=jl2 (show 0<=kS e-2*p.ax by omega) (jmw de);have m2:=jl2 (show 0<=2*p.bx-kS e by omega) (jmw de)
  rw[jnl] at m1 m2;rw[jmM] at m1 m2;omega
end
theorem jhU(l:Leg)(x y:Int):onL (qW l) x y=onL l x y:=by
 show uV (lB l) (lA l) (x,y)=uV (lA l) (lB l) (x,y);exact B5 _ _ _
theorem jiM(E:List Leg)(x y:Int):Mi true E x y=sm (λe=>kk (tw e) x y) E:=by
 rw[Mi,Mk _ _ _ _ _ (jlL _),jms]
theorem jkx(l:Leg):tw (qW l)=qW (tw l):=rfl
section
variable{K:List Leg}{n:Nat}{T:List jI}{i k:Nat}
theorem Fam.arndC(F:Fam K T.length (λk=>Jh (rg T k)))(hi:i<T.length)(hk:k<T.length)(hn:k≠i):yG (rg T k) (rg T i)= !(cM (λk=>Jh (rg T k)) k i==0):=by
 obtain⟨e0,he0,hf0⟩:=F.flat i hi;have hm0:=F.mem hi he0
 have hoff:offB (rg T k) e0=true:=by
  unfold offB;rw[jmo,ZN,List.any_eq_false];intro f hf;have hmf:=F.mem hk hf
  have hne:qh e0≠qh f:=λc=>by
   have h0:=F.oth k hk i hi hn e0 he0;have h1:=F.self hk hf
   rw[<-c] at h1;omega
  have hup:(qh e0).ay<(qh e0).b_y:=by
   have ho:=Dk ((F.key i hi).ord _ hm0);have:=(xU e0).2.2
   have:(qh e0).ay≠(qh e0).b_y:=λc=>hf0 (this.1 c)
   omega
  have hfree:=je3 (F.key i hi) hm0 hmf hne hup;obtain⟨x1,x2,_⟩:=xU e0;rw[x1,x2] at hfree;have:onL (tw f) (e0.ax+e0.bx) (e0.ay+e0.b_y)=false:=by
   rcases kb (e:=f) with c|c
   .rw[c];exact hfree
   .rw[c,jkx,jhU];exact hfree
  show¬onL (tw f) (e0.ax+e0.bx) (e0.ay+e0.b_y)=true;rw[this];decide
 have key:∀e∈Jh (rg T i),Mi true (Jh (rg T k)) (YR e).1 (YR e).2=cM (λk=>Jh (rg T k)) k i:=λe he=>by
  obtain⟨h0,h1,h2⟩:=F.other hk hi hn he;have hm:=F.mem hi he
  have hout:Qw (Jh (rg T k)) (qh e)=cM (λk=>Jh (rg T k)) k i:=by
   unfold Q5 at h1 h2;split at h1
   .exact h1
   .rename_i c;rw[if_neg c] at h2;exact h2
  obtain⟨x1,x2,_⟩:=xU e;rw[jiM,<-hout];unfold Qw;rw[x1,x2];refine JC λf hf=>?_
  have hne:qh f≠qh e:=λc=>by
   have h3:=F.self hk hf;rw[c] at h3;have:qd (Jh (rg T k)) (qh e)=0:=h0
   omega
  rw[if_neg hne];rfl
 unfold Go.Proofs.YtjbahemkhphndaaGreat.yG;cases hfd:(Jh (rg T i)).find? (offB (rg T k)) with
 |none=>
  have:=List.find?_eq_none.1 hfd e0 he0;rw[hoff] at this;exact absurd rfl this
 |some e=>
  show(!(Mi true (Jh (rg T k)) (YR e).1 (YR e).2==0))=_;rw[key e (List.mem_of_find?_eq_some hfd)]
end
theorem IR{α:Type}{f:α->Int}:∀{l:List α},(∀x∈l,0<=f x)->∀x∈l,0<f x->0<sm f l
 |[],_,x,hx,_=>by cases hx
 |a::l,h,x,hx,hp=>by
  have h1:=h a (by simp);have h2:=L5 (l:=l) (f:=f) λy hy=>h y (jlQ _ hy)
  simp only[sm];rcases jlP.1 hx with k|k
  .rw[k] at hp;omega
  .have:=IR (λy hy=>h y (jlQ _ hy)) x k hp;omega
def gM(a _b:Int):Int:=if 0<=a then a else 0
section
variable{K E:List Leg}{Y:Int}
theorem jjZ(h:Keys K E)(hp:p∈K)(ha:QF (tw p) Y=true)(h1:0<=Qw E p)(h2:0<=Qw E p+qd E p):qd E p=dg gM (K.map tw) (qd (E.map tw)) (qd (E.map tw)) Y (tw p):=by
 have ha2:=qt.1 ha;have e1:(tw p).ay=2*p.ay:=rfl
 have e2:(tw p).b_y=2*p.b_y:=rfl;have hl:p.ay<p.b_y:=by omega
 have hmid:QF (tw p) (QY p)=true:=qt.2 (by unfold QY;omega);unfold dg;rw[h.out hp hl,zR h.net (UH hp) ha hmid] at h1 h2;rw[xD];unfold gM;rw[if_pos h2,if_pos h1];omega
theorem NK(h:Keys K E)(hv:∀p∈K,QF (tw p) Y=true->0<=Qw E p/\0<=Qw E p+qd E p)(X:Leg->Int)(hX:∀e∈K.map tw,∀p∈K.map tw,QF e Y=true->QF p Y=true->num p Y*den e<=num e Y*den p->X p<=X e):0<=sm (λp=>qd E p*(ix (QF (tw p) Y)*X (tw p))) K:=by
 have hl:=CV h.net h.net gM (λa b=>by unfold gM;split<;>omega) rfl X hX;rw[VC] at hl;refine jmN hl (jns (JC λp hp=>?_));have:dg gM (K.map tw) (qd (E.map tw)) (qd (E.map tw)) Y (tw p)*ix (QF (tw p) Y)=qd E p*ix (QF (tw p) Y):=CM λk=>(jjZ h hp k (hv p hp k).1 (hv p hp k).2).symm
 rw[this];grind
theorem jhb(h:Keys K E){e:Leg}(he:e∈K)(hp:p∈K)(hn:e≠p)(ha:QF (tw e) (2*y+1)=true)(hb:QF (tw p) (2*y+1)=true):K3 (tw e) (tw p) (2*y+1)≠0:=by
 intro hd;have a1:=qt.1 ha
 have a2:=qt.1 hb;have te:(tw e).ay=2*e.ay/\(tw e).b_y=2*e.b_y/\(tw p).ay=2*p.ay/\(tw p).b_y=2*p.b_y:=⟨rfl,rfl,rfl,rfl⟩
 have hs:=yE (h.sep e he p hp hn);have hL:Vy (tw e) (tw p)<2*y+1:=by unfold Vy;omega
 have hU:2*y+1<wE (tw e) (tw p):=by unfold wE;omega
 have hse:=hs.side (GG ha) (GG hb) Om;have l1:=Kf (tw e) (tw p) (Vy (tw e) (tw p)) (2*y+1)
 have l3:=Kf (tw e) (tw p) (Vy (tw e) (tw p)) (wE (tw e) (tw p));rw[hd] at l1;generalize K3 (tw e) (tw p) (Vy (tw e) (tw p))=a at*;generalize K3 (tw e) (tw p) (wE (tw e) (tw p))=b at*;generalize Vy (tw e) (tw p)=L at*;generalize wE (tw e) (tw p)=U at*;generalize Uc (tw e) (tw p)=s at*;generalize 2*y+1=W at*;have main:a*(U-W)+b*(W-L)=0:=by
  have h1:b=a+s*(U-L):=l3;have h2:0=a+s*(W-L):=l1
  rw[h1];have:a= -(s*(W-L)):=by omega
  rw[this];grind
 rcases hse with⟨q1,q2,q3⟩|⟨q1,q2,q3⟩
 .have m1:=jl2 q1 (show 0<=U-W by omega);have m2:=jl2 q2 (show 0<=W-L by omega)
  have z1:=Qx (show 0<U-W by omega) (show a*(U-W)=0 by omega);have z2:=Qx (show 0<W-L by omega) (show b*(W-L)=0 by omega)
  omega
 .have m1:=jl2 (show 0≤-a by omega) (show 0<=U-W by omega);have m2:=jl2 (show 0≤-b by omega) (show 0<=W-L by omega)
  rw[jnz] at m1 m2;have z1:=Qx (show 0<U-W by omega) (show a*(U-W)=0 by omega)
  have z2:=Qx (show 0<W-L by omega) (show b*(W-L)=0 by omega);omega
end
theorem we{a:Leg}{W:Int}(aa:QF a W=true):0<den a:=by
 have:=qt.1 aa;unfold den;omega
theorem jkE{e:Leg}{Y:Int}(he:e∈K)(hp:p∈K)(de:0<den e)(dp:0<den p)(h:num p Y*den e<num e Y*den p):P7 (vp K) Y p<P7 (vp K) Y e:=by
 obtain⟨c,hc⟩:=U8 he de;obtain⟨d,hd⟩:=U8 hp dp;have hD:=xZ K
 have e1:vp K/den e=c:=by rw[hc];exact jnv _ (jnw de)
 have e2:vp K/den p=d:=by rw[hd];exact jnv _ (jnw dp)
 unfold P7;rw[e1,e2];have key:(num e Y*c-num p Y*d)*(den e*den p)=(num e Y*den p-num p Y*den e)*vp K:=by
  have x1:num e Y*c*(den e*den p)=num e Y*den p*vp K:=by rw[hc];grind
  have x2:num p Y*d*(den e*den p)=num p Y*den e*vp K:=by rw[hd];grind
  rw[jnl,jnl,x1,x2]
 have hp2:0<(num e Y*den p-num p Y*den e)*vp K:=jmj Om hD;rw[<-key] at hp2;have:=vT (jmj de dp) hp2
 omega
section
variable{K E:List Leg}
theorem jcj(h:Keys K E)(hv:∀p∈K,QF (tw p) (2*y+1)=true->0<=Qw E p/\0<=Qw E p+qd E p){q:Leg}(hq:q∈K)(ha:QF (tw q) (2*y+1)=true)(b:Bool)(hpos:0<Qw E q+if b=true then qd E q else 0):0<sm (λp=>qd E p*(ix (QF (tw p) (2*y+1))*P7 (vp (K.map tw)) (2*y+1) (tw p))) K:=by
 have hl:=NK h hv (λp=>P7 (vp (K.map tw)) (2*y+1) p-ix ((b&&decide (p=tw q))||wV p (tw q))) (λe he p hp ea pa hnum=>by
  have hle:=jgC he hp (we ea) (we pa) hnum;have b1:∀z:Bool,ix z=0\/ix z=1:=λz=>by cases z;exact .inl rfl;exact .inr rfl
  by_cases hep:e=p
  .rw[hep];exact jna _
  .obtain⟨e0,he0,rfl⟩:=jlR.1 he;obtain⟨p0,hp0,rfl⟩:=jlR.1 hp;have hd:=jhb h he0 hp0 (λk=>hep (by rw[k])) ea pa
   unfold K3 at hd;have hlt:=jkE he hp (we ea) (we pa) (show num (tw p0) (2*y+1)*den (tw e0)<num (tw e0) (2*y+1)*den (tw p0) by omega)
   have h1:=b1 ((b&&decide (tw e0=tw q))||wV (tw e0) (tw q));have h2:=b1 ((b&&decide (tw p0=tw q))||wV (tw p0) (tw q))
   show P7 _ _ (tw p0)-ix _<=P7 _ _ (tw e0)-ix _;omega)
 have e1:sm (λp=>qd E p*(ix (QF (tw p) (2*y+1))*(P7 (vp (K.map tw)) (2*y+1) (tw p)-ix ((b&&decide (tw p=tw q))||wV (tw p) (tw q))))) K=sm (λp=>qd E p*(ix (QF (tw p) (2*y+1))*P7 (vp (K.map tw)) (2*y+1) (tw p))) K-(Qw E q+if b=true then qd E q else 0):=by
  have e3:(if b=true then qd E q else 0)=sN K E (λe=>b&&decide (q=e)):=by
   cases b with
   |true=>exact(WO h.nd hq λe _=>by simp).symm
   |false=>exact(XF λe _=>rfl).symm
  rw[WI h hq ha,e3,<-Ww (q:=λe=>QF (tw e) (2*y+1) && ((b&&decide (tw e=tw q))||wV (tw e) (tw q))) (λe he=>?_)]
  .unfold sN;rw[<-Ud];refine JC λp hp=>?_
   have:ix (QF (tw p) (2*y+1) && ((b&&decide (tw p=tw q))||wV (tw p) (tw q)))=ix (QF (tw p) (2*y+1))*ix ((b&&decide (tw p=tw q))||wV (tw p) (tw q)):=by
    cases QF (tw p) (2*y+1)<;>cases((b&&decide (tw p=tw q))||wV (tw p) (tw q))<;>rfl
   rw[this];grind
  .by_cases c:e=q
   .subst c;rw[ha,UC,decide_eq_true rfl,decide_eq_true rfl];cases b<;>rfl
   .rw[decide_eq_false (show¬tw e=tw q from λk=>c (Mg k)),decide_eq_false (show¬q=e from λk=>c k.symm),jno,Bool.false_or];show _=_+(0:Int)
    omega
 rw[e1] at hl;omega
theorem Tx(h:Keys K E){M:Nat}(hM:∀p∈K,-(M:Int)<=p.ay/\p.b_y<=M)(hv:∀p∈K,p.ay<p.b_y->0<=Qw E p/\0<=Qw E p+qd E p)(hx:∃q∈K,q.ay<q.b_y/\∃b:Bool,0<Qw E q+if b=true then qd E q else 0):0<sm (λl=>Xi (lA l) (lB l)) E:=by
 have hc:∀v,sm (λl=>Um v (lA l)-Um v (lB l)) E=0:=λv=>h.close (λx y=>Um v (x,y))
 rw[jd6 hc];have e1:sm HZ E=sm (λp=>qd E p*HZ p) K:=by
  rw[<-x5 h.nd HZ E h.all];refine JC λe _=>?_
  unfold sg qh;split
  .simp only[HZ,qW];grind
  .rw[jnK]
 rw[e1];have hD:=xZ (K.map tw)
 have e2:∀p∈K,vp (K.map tw)*HZ p=sm (λY=>ix (QF (tw p) Y)*P7 (vp (K.map tw)) Y (tw p)) (lvM M):=λp hp=>by
  have ho:p.ay<p.b_y\/(p.ay=p.b_y/\p.ax<p.bx):=h.ord p hp;have hm:=hM p hp
  rcases ho with hlt|⟨heq,_⟩
  .have dp:0<den (tw p):=by rw[vV];unfold den;omega
   obtain⟨c,hc⟩:=U8 (UH hp) dp;have ec:vp (K.map tw)/den (tw p)=c:=by rw[hc];exact jnv _ (jnw dp)
   have e3:sm (λY=>ix (QF (tw p) Y)*P7 (vp (K.map tw)) Y (tw p)) (lvM M)=c*sm (λY=>ix (QF (tw p) Y)*num (tw p) Y) (lvM M):=by
    rw[<-SH];refine JC λY _=>?_
    unfold P7;rw[ec];grind
   rw[e3,jjS hm.1 Om hm.2,hc,vV];grind
  .have z:∀Y,QF (tw p) Y=false:=λY=>by
    cases k:QF (tw p) Y with
    |false=>rfl
    |true=>
     have:=qt.1 k;have q1:(tw p).ay=2*p.ay:=rfl
     have q4:(tw p).b_y=2*p.b_y:=rfl;omega
   have t0:HZ p=0:=by unfold HZ;rw[heq];grind
   rw[t0,jm2];refine((JC λY _=>?_).trans (Q0 (lvM M))).symm;rw[z];simp[ix]
 have e4:vp (K.map tw)*sm (λp=>qd E p*HZ p) K=sm (λY=>sm (λp=>qd E p*(ix (QF (tw p) Y)*P7 (vp (K.map tw)) Y (tw p))) K) (lvM M):=by
  rw[<-SH,<-HS];refine JC λp hp=>?_
  rw[SH,<-e2 p hp];grind
 have hvW:∀{Y:Int},∀p∈K,QF (tw p) Y=true->0<=Qw E p/\0<=Qw E p+qd E p:=λ{Y} p hp ha=>hv p hp (jdk ha)
 obtain⟨q,hq,hl,b,hpos⟩:=hx;have hmq:=hM q hq
 have e5:0<vp (K.map tw)*sm (λp=>qd E p*HZ p) K:=by
  rw[e4];refine IR (λY _=>NK h hvW (P7 (vp (K.map tw)) Y) λe he p hp ha hb hnum=>jgC he hp (we ha) (we hb) hnum) (2*q.ay+1) ?_ (jcj h hvW hq (qt.2 ?_) b hpos)
  .unfold lvM;exact jlR.2 ⟨(q.ay+M).toNat,jmB.2 Om,by omega⟩
  .have q1:(tw q).ay=2*q.ay:=rfl;have q4:(tw q).b_y=2*q.b_y:=rfl
   omega
 rw[jmn] at e5;exact vT hD e5
end
theorem HJ{n:Nat}(hi:i<n)(h:∀j,j<n->j≠i->f j=0):sm f (List.range n)=f i:=by
 induction n with
 |zero=>omega
 |succ n ih=>
  rw[jm3,Qz];simp only[sm];by_cases c:i=n
  .subst c;have:sm f (List.range i)=0:=(JC λj hj=>h j (by have:=jmB.1 hj;omega) (by have:=jmB.1 hj;omega)).trans (Q0 _)
   omega
  .rw[ih Om λj hj=>h j Om,h n Om Om];omega
theorem jik{n p:Nat}(hi:i<n)(hp:p<n)(hn:i≠p)(h:∀j,j<n->j≠i->j≠p->f j=0):sm f (List.range n)=f i+f p:=by
 have e:sm f (List.range n)=sm (λj=>if j=i then f j else 0) (List.range n)+sm (λj=>if j=i then 0 else f j) (List.range n):=by
  rw[<-UF];exact JC λj _=>by split<;>omega
 rw[e,HJ hi λj _ k=>if_neg k,HJ hp λj hj k=>by
  by_cases c:j=i
  .exact if_pos c
  .rw[if_neg c];exact h j hj c k]
 rw[if_pos rfl,if_neg (Ne.symm hn)]
section
variable{K:List Leg}{n:Nat}{E:Nat->List Leg}
theorem Fam.tot(F:Fam K n E)(hk:k<n):sm (λi=>cM E i k) (List.range n)=1:=by
 obtain⟨e,he,_⟩:=F.flat k hk;rw[<-F.sum k hk e he];exact JC λi hi=>(F.eq (jmB.1 hi) hk he).symm
theorem Fam.trans(F:Fam K n E){a b:Nat}(ha:a<n)(hb:b<n)(hi:i<n)(h1:a≠b)(h2:b≠i)(c1:cM E a b≠0)(c2:cM E b i≠0):a≠i/\cM E a i=cM E a b:=by
 have h3:a≠i:=λk=>by
  subst k;have:=F.anti ha hb h1
  omega
 have h4:=F.two hi ha hb h3 h2 h1;have h5:=F.anti ha hb h1
 exact⟨h3,by omega⟩
end
structure Inm (E:Nat->List Leg) (n i p:Nat):Prop where
 lt:p<n
 ne:p≠i
 ar:cM E p i≠0
 inn:∀k,k<n->k≠i->k≠p->cM E k i≠0->cM E k p≠0
section
variable{K:List Leg}{T:List jI}
theorem Fam.ar_iff(F:Fam K T.length (λk=>Jh (rg T k)))(hi:i<T.length)(hk:k<T.length)(hn:k≠i):yG (rg T k) (rg T i)=true↔cM (λk=>Jh (rg T k)) k i≠0:=by
 rw[F.arndC hi hk hn];simp
theorem Fam.par(F:Fam K T.length (λk=>Jh (rg T k)))(hi:i<T.length):∀j,j<=T.length->(Qh T i j<0/\∀k,k<j->k≠i->cM (λk=>Jh (rg T k)) k i=0)\/(∃p:Nat,Qh T i j=(p:Int)/\p<j/\p≠i/\cM (λk=>Jh (rg T k)) p i≠0/\∀k,k<j->k≠i->k≠p->cM (λk=>Jh (rg T k)) k i≠0->cM (λk=>Jh (rg T k)) k p≠0):=by
 intro j
 induction j with
 |zero=>exact λ_=>.inl ⟨by unfold Qh;decide,λk hk=>by omega⟩
 |succ j ih0=>
  intro hj;have hjl:j<T.length:=by omega
  rcases ih0 Om with⟨c,ih⟩|⟨q,c,q1,q2,q3,ih⟩
  .by_cases h:j≠i/\yG (rg T j) (rg T i)=true
   .refine .inr ⟨j,OM h.1 h.2 (.inl c),by omega,h.1,(F.ar_iff hi hjl h.1).1 h.2,λk hk h1 h2 h3=>absurd (ih k Om h1) h3⟩
   .refine .inl ⟨by rw[Dn λk=>h k.1];exact c,λk hk h1=>?_⟩;by_cases e:k=j
    .subst e;exact Decidable.byContradiction λh2=>h ⟨h1,(F.ar_iff hi hjl h1).2 h2⟩
    .exact ih k Om h1
  .have hql:q<T.length:=by omega
   have ec:(Qh T i j).toNat=q:=by rw[c];rfl
   by_cases h:(j≠i/\yG (rg T j) (rg T i)=true)/\yG (rg T q) (rg T j)=true
   .have hqj:q≠j:=by omega
    have a1:=(F.ar_iff hjl hql hqj).1 h.2;refine .inr ⟨j,OM h.1.1 h.1.2 (.inr (by rw[ec];exact h.2)),by omega,h.1.1,(F.ar_iff hi hjl h.1.1).1 h.1.2,λk hk h1 h2 h3=>?_⟩;by_cases e:k=q
    .rw[e];exact a1
    .have:=ih k Om h1 e h3;have:=(F.trans Om hql hjl e hqj this a1).2
     omega
   .refine .inr ⟨q,by rw[Dn λk=>h ⟨k.1,by have:=k.2;rw[ec] at this;exact this.resolve_left Om⟩];exact c,by omega,q2,q3,λk hk h1 h2 h3=>?_⟩;by_cases e:k=j
    .subst e;have h4:¬yG (rg T q) (rg T k)=true:=λm=>h ⟨⟨h1,(F.ar_iff hi hjl h1).2 h3⟩,m⟩
     have h5:cM (λk=>Jh (rg T k)) q k=0:=Decidable.byContradiction λm=>h4 ((F.ar_iff hjl hql (Ne.symm h2)).2 m)
     exact(F.chain hi hjl hql h1 q2 h2 h3 q3).resolve_right (λm=>m h5)
    .exact ih k Om h1 h2 h3
theorem Fam.par_none(F:Fam K T.length (λk=>Jh (rg T k)))(hi:i<T.length)(hp:Qh T i T.length<0):cM (λk=>Jh (rg T k)) i i=1:=by
 rcases F.par hi T.length (jlL _) with⟨_,ih⟩|⟨q,c,_⟩
 .rw[<-F.tot hi];exact(HJ hi λj hj hn=>ih j hj hn).symm
 .omega
theorem Fam.par_some(F:Fam K T.length (λk=>Jh (rg T k))){p:Nat}(hi:i<T.length)(hp:Qh T i T.length=(p:Int)):Inm (λk=>Jh (rg T k)) T.length i p:=by
 rcases F.par hi T.length (jlL _) with⟨c,_⟩|⟨q,c,q1,q2,q3,ih⟩
 .omega
 .have:q=p:=by omega
  subst this;exact⟨q1,q2,q3,ih⟩
end
section
variable{K:List Leg}{n:Nat}{E:Nat->List Leg}
theorem Fam.opp(F:Fam K n E){p:Nat}(hi:i<n)(h:Inm E n i p):cM E i i=1-cM E p p:=by
 have hp:=h.lt;have t1:=F.tot hi
 have t2:=F.tot hp;have a1:=F.anti hp hi h.ne
 have a2:=F.c2 hp hi h.ne;have ar:=h.ar
 have e:sm (λj=>cM E j i-cM E j p) (List.range n)=0:=by rw[Ud,t1,t2];rfl
 rw[jik hi hp (Ne.symm h.ne) λj hj h1 h2=>?_] at e
 .omega
 .by_cases c:cM E j i=0
  .have:cM E j p=0:=Decidable.byContradiction λk=>by
    have:=(F.trans hj hp hi h2 h.ne k ar).2;omega
   omega
  .have k:=h.inn j hj h1 h2 c;have:=(F.trans hj hp hi h2 h.ne k ar).2
   omega
end
theorem OW{f:Nat->Int}:∀{L:List Nat},L.Nodup->∀k∈L,(∀l∈L,l≠k->f l=0)->sm f L=f k
 |[],_,k,hk,_=>by cases hk
 |a::L,hn,k,hk,h=>by
  rw[jmY] at hn;simp only[sm];by_cases c:a=k
  .subst c;have:sm f L=0:=(JC λl hl=>h l (jlQ _ hl) λk=>hn.1 (k▸hl)).trans (Q0 _)
   omega
  .rw[h a (by simp) c,OW hn.2 k ((jlP.1 hk).resolve_left (Ne.symm c)) λl hl=>h l (jlQ _ hl)];omega
structure Prt (E:Nat->List Leg) (n i:Nat) (H:List Nat):Prop where
 ri:i<n
 pos:cM E i i=1
 nd:H.Nodup
 mem:∀k∈H,k<n/\Inm E n k i/\cM E k k=0
section
variable{K:List Leg}{n:Nat}{E:Nat->List Leg}{i:Nat}{H:List Nat}
theorem Prt.one(F:Fam K n E)(P:Prt E n i H){l j:Nat}(hk:k∈H)(hl:l∈H)(hn:k≠l)(hj:j<n)(h1:k≠j)(h2:l≠j)(c1:cM E k j≠0)(c2:cM E l j≠0):False:=by
 have key:∀{k l:Nat},k∈H->l∈H->k≠l->cM E k l≠0->False:=λ{k l} hk hl hn c=>by
  obtain⟨k1,k2,k3⟩:=P.mem k hk;obtain⟨l1,l2,l3⟩:=P.mem l hl;have h3:=l2.inn k k1 hn (λe=>by have:=P.pos;rw[e] at k3;omega) c
  have h4:=F.anti P.ri k1 k2.ne;have:=k2.ar
  omega
 rcases F.chain hj (P.mem k hk).1 (P.mem l hl).1 h1 h2 hn c1 c2 with c|c
 .exact key hk hl hn c
 .exact key hl hk (Ne.symm hn) c
theorem Prt.sum(F:Fam K n E)(P:Prt E n i H){j:Nat}(hj:j<n):(cM E i j+sm (λk=>cM E k j) H=0\/cM E i j+sm (λk=>cM E k j) H=1)/\(j=i\/j∈H->cM E i j+sm (λk=>cM E k j) H=1):=by
 have pos:=P.pos;have hi:=P.ri
 by_cases c1:j=i
 .subst c1;have:sm (λk=>cM E k j) H=0:=(JC λk hk=>by
   obtain⟨k1,k2,k3⟩:=P.mem k hk;have:=F.anti hi k1 k2.ne
   have:=k2.ar;omega).trans (Q0 _)
  exact⟨.inr Om,λ_=>by omega⟩
 .by_cases c2:j∈H
  .obtain⟨j1,j2,j3⟩:=P.mem j c2;have a1:=F.c2 hi hj (Ne.symm c1)
   have a2:=j2.ar;have:sm (λk=>cM E k j) H=0:=(JC λk hk=>by
    by_cases c3:k=j
    .rw[c3];exact j3
    .obtain⟨k1,k2,k3⟩:=P.mem k hk;refine Decidable.byContradiction λc=>?_
     have h3:=j2.inn k k1 c3 (λe=>by rw[e] at k3;omega) c;have h4:=F.anti hi k1 k2.ne
     have:=k2.ar;omega).trans (Q0 _)
   exact⟨.inr Om,λ_=>by omega⟩
  .have a1:=F.c2 hi hj (Ne.symm c1);refine⟨?_,λh=>absurd h (by simp[c1,c2])⟩;by_cases c3:∃k∈H,cM E k j≠0
   .obtain⟨k,hk,c⟩:=c3;obtain⟨k1,k2,k3⟩:=P.mem k hk;have hkj:k≠j:=λe=>c2 (e▸hk)
    have:sm (λk=>cM E k j) H=cM E k j:=OW P.nd k hk λl hl hn=>Decidable.byContradiction λc'=>P.one F hl hk hn hj (λe=>c2 (e▸hl)) hkj c' c
    have b1:=F.c2 k1 hj hkj;have b2:=(F.trans hi k1 hj k2.ne.symm.symm hkj k2.ar c).2
    have b3:=F.c2 hi k1 k2.ne.symm.symm;have b4:=k2.ar
    omega
   .have:sm (λk=>cM E k j) H=0:=(JC λk hk=>Decidable.byContradiction λc=>c3 ⟨k,hk,c⟩).trans (Q0 _);omega
end
end Go.Proofs.YtjbahemkhphndaaGreat
