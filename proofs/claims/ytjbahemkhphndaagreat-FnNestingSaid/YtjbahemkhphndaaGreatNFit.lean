import Derived.Test.YtjbahemkhphndaaGreatNOwn
import Derived.Test.YtjbahemkhphndaaGreatNTrI
import Derived.Test.YtjbahemkhphndaaGreatNBrd
import Derived.Test.YtjbahemkhphndaaGreatNSnapG
import Derived.Test.YtjbahemkhphndaaGreatNRay2
import Derived.Test.YtjbahemkhphndaaGreatNTopo4
import Derived.Test.YtjbahemkhphndaaGreatNNetT
import Derived.Test.YtjbahemkhphndaaGreatNValidRegion
set_option linter.unusedVariables false
set_option linter.unusedSimpArgs false
namespace Go.Proofs.YtjbahemkhphndaaGreat
open Go Go.RowKit
section
variable{E:List Leg}{hot:List Pn}{rs ss:List jI}
def Ls(rs:List jI):List jI:=if JG rs=true then rs else []
def M6(rs:List jI):Int:=if JG rs=true then 0 else 5
theorem CB(rs:List jI):smallR (Ls rs):=by
 unfold Ls;split
 .exact smallR.of (by assumption)
 .exact smallR.nil
theorem jet(hE:∀l∈E,qK l)(hl:E.length<=400)(hr:JG ss=true)(hb:∀r∈ss,bare r)(hs:∀l∈jH ss,l∈E):HotOk (jhn E) ss:=by
 have hends:∀l∈E,lA l∈jhn E:=λl hl=>by
  obtain⟨k,hk,e⟩:=jmq hl;have:=(Nk (E:=E) _ (jlL _) k hk).1
  rw[BR hk,e] at this;exact(yv _ _).2 this
 refine⟨hr,λp hp=>zl (jae hE _ (jlL _) p ((yv _ _).1 hp)),Gj _,jbM (Gj _),?_,λr h=>⟨hb r h,λp hp=>?_⟩⟩
 .have h1:=Gk (zb E E.length);have h2:=xP E E.length
  have h3:E.length*(E.length+2)<=400*402:=Nat.mul_le_mul hl Om;unfold jhn;omega
 .have hbr:=hb r h;have hp2:p∈(Jh r).map lA:=by
   rw[QQ hbr,jni];have e2:(KN r).map (lA∘mkL)=(KN r).map (·.1):=rfl
   rw[e2,WJ];exact hp
  obtain⟨l,hl,rfl⟩:=jlR.1 hp2;exact hends l (hs l (zH.2 ⟨r,h,hl⟩))
structure CmOk (rs ss:List jI):Prop where
 r1:JG rs=true
 r2:JG ss=true
 len:(jH rs++jH ss).length<=400
def Ro(rs ss:List jI):List Leg:=jH rs++jH ss
def uA(rs ss:List jI):List Pn:=jhn (Ro rs ss)
def Ui(rs ss:List jI):List jI:=SO (uA rs ss) (ql rs)
def ur(rs ss:List jI):List jI:=SO (uA rs ss) (ql ss)
def ud(rs ss:List jI):Bool:=FH (uA rs ss) (ql rs)
def Uz(rs ss:List jI):Bool:=FH (uA rs ss) (ql ss)
def Qp(rs ss:List jI)(how:Int):List Leg:=vW (jH (Ui rs ss)) (jH (ur rs ss)) how
def vX(rs ss:List jI)(how:Int):List jI:=Ki (Qp rs ss how)
section
variable{rs ss:List jI}
theorem CmOk.legs(h:CmOk rs ss):∀l∈Ro rs ss,qK l:=λl hl=>(jl0.1 hl).elim (PF h.r1 l) (PF h.r2 l)
theorem CmOk.hot1(h:CmOk rs ss):HotOk (uA rs ss) (ql rs):=jet h.legs h.len (zh h.r1) (ZQ h.r1) λl hl=>jmH _ (by rwa [wC h.r1] at hl)
theorem CmOk.hot2(h:CmOk rs ss):HotOk (uA rs ss) (ql ss):=jet h.legs h.len (zh h.r2) (ZQ h.r2) λl hl=>jnd _ (by rwa [wC h.r2] at hl)
theorem xy(hk:HotOk hot rs)(h:FH hot rs=true):JG (SO hot rs)=true/\q8 hot (SO hot rs)=SO hot rs/\∃n,SO hot rs=Ta hot n rs:=by
 cases hs:Mb hot rs with
 |none=>rw[(SP hs).2.2] at h;cases h
 |some x=>
  obtain⟨s,r⟩:=x;rw[(zY hs).1];exact⟨jgc hk.nd hk.reg hk.bare hs,jbs _ hs⟩
theorem CmOk.pair(h:CmOk rs ss)(ha:ud rs ss=true)(hb:Uz rs ss=true):Yz (jH (Ui rs ss)++jH (ur rs ss)):=by
 have k1:=h.hot1;have k2:=h.hot2
 obtain⟨_,f1,n1,i1⟩:=xy k1 ha;obtain⟨_,f2,n2,i2⟩:=xy k2 hb;have e1:Ta (uA rs ss) (n1+n2) (ql rs)=Ui rs ss:=by rw[RI,<-i1,RJ f1];rfl
 have e2:Ta (uA rs ss) (n1+n2) (ql ss)=ur rs ss:=by rw[Nat.add_comm,RI,<-i2,RJ f2];rfl
 have e:Ta (uA rs ss) (n1+n2) (ql rs++ql ss)=Ui rs ss++ur rs ss:=by rw[jaj,e1,e2]
 have hb0:bareG (uA rs ss) (ql rs++ql ss):=λr hr=>(jl0.1 hr).elim (k1.bare r) (k2.bare r)
 have he0:jH (ql rs++ql ss)=Ro rs ss:=by rw[UT,wC h.r1,wC h.r2];rfl
 have hi:=jak k1.nd (n1+n2) _ hb0 (by rw[he0];exact jce λp hp=>(yv _ _).2 hp);rw[e] at hi;have hfix:q8 (uA rs ss) (Ui rs ss++ur rs ss)=Ui rs ss++ur rs ss:=by
  unfold q8 at*;rw[jma];have a:(Ui rs ss).map (Ko (uA rs ss))=Ui rs ss:=f1
  have b:(ur rs ss).map (Ko (uA rs ss))=ur rs ss:=f2;rw[a,b]
 have hx:=Nm k1.nd hi.1 hi.2;rw[hfix] at hx;intro x hx1 y hy1;rw[<-UT] at hx1 hy1;exact jc9 hi.1 hfix hx (λp hp=>zK (k1.ok p hp)) hx1 hy1
theorem CmOk.two(h:CmOk rs ss)(ha:ud rs ss=true)(hb:Uz rs ss=true):TwoE (jH (Ui rs ss)) (jH (ur rs ss)):=by
 obtain⟨r1,_⟩:=xy h.hot1 ha;obtain⟨r2,_⟩:=xy h.hot2 hb;have g1:=YK r1
 have g2:=YK r2;exact⟨g1.ok,g2.ok,g1.ne,g2.ne,zP r1,zP r2⟩
theorem CmOk.okT(h:CmOk rs ss)(ha:ud rs ss=true)(hb:Uz rs ss=true)(how:Int):okRs (vX rs ss how):=by
 have hB:BoOk (Qp rs ss how):=XQ (h.two ha hb);have hl:=hB.len
 obtain⟨h1,h2⟩:=Y4 (B:=Qp rs ss how) _ (jlL _);refine⟨by unfold vX Ki;omega,λr hr=>?_⟩;obtain⟨g1,g2,g3⟩:=h2 r hr;refine⟨g1,by omega,λp hp=>?_⟩;obtain⟨j,hj,rfl⟩:=g3 p hp;exact(WG (ky hB.ok hj)).wide
end
def Mt(how:Int):Bool:=decide (1<=how) &&decide (how<=4)
def zq(rs ss:List jI):Bool:=JG rs&&JG ss
def UL(rs ss:List jI):Bool:=decide ((jH rs++jH ss).length<=400) && (ud rs ss&&Uz rs ss)
def Fj(rs ss:List jI)(how:Int):List jI:=if UL rs ss=true then Ls (vm (vX rs ss how)) else []
def Cl(rs ss:List jI)(how:Int):Int:=if UL rs ss=true then M6 (vm (vX rs ss how)) else 5
def uv(rs ss:List jI)(how:Int):List jI:=if zq rs ss=true then(if Mt how=true then Fj rs ss how else []) else []
def Xu(rs ss:List jI)(how:Int):Int:=if zq rs ss=true then(if Mt how=true then Cl rs ss how else 2) else 1
theorem jb1(rs ss:List jI)(how:Int):smallR (Fj rs ss how):=by
 unfold Fj;split
 .exact CB _
 .exact smallR.nil
theorem jbY(rs ss:List jI)(how:Int):smallR (uv rs ss how):=by
 unfold uv;split
 .split
  .exact jb1 ..
  .exact smallR.nil
 .exact smallR.nil
theorem Du(hr:JG rs=true):∀r∈rs,0<r.length:=λr h=>by
 obtain⟨i,hi,e⟩:=jmq h;have:=Qj (kg hr hi)
 rw[wb hi] at e;rw[<-e];omega
theorem Ns(es:List Leg):jgD (KF es):=by
 have ha:GE (Qf false es []):=Wl List.Pairwise.nil;rw[KF];exact jnx.2 ha
theorem yk{es:List Leg}{q:Leg}:q∈KF es↔∃e∈es,q=qh e:=by
 rw[KF,jlR];rw[show(∃a∈Qf false es [],a.e=q)↔_ from Wm];simp
theorem Ch(E1 E2:List Leg)(how:Int):vW E1 E2 how=Va (KF (E1++E2)) E1 E2 how:=by
 unfold vW XO Va;rw[jms]
theorem jb6(a b c d:Pn):(QE b a c d).length=(QE a b c d).length:=by
 refine List.Perm.length_eq ((jnH (WD _ _ _ _) (WD _ _ _ _)).2 λq=>?_);rw[q7,q7];unfold Kb;rw[Si a b];constructor
 .rintro⟨h,k⟩;exact⟨or_left_comm.1 h,k⟩
 .rintro⟨h,k⟩;exact⟨or_left_comm.1 h,k⟩
theorem Cz(a b c d:Pn):(QE a b d c).length=(QE a b c d).length:=by
 refine List.Perm.length_eq ((jnH (WD _ _ _ _) (WD _ _ _ _)).2 λq=>?_);rw[q7,q7];unfold Kb;rw[Si c d];have e:∀A B C D:Prop,(A\/B\/C\/D)->(A\/B\/D\/C):=λA B C D h=>h.imp id λh=>h.imp id Or.symm
 constructor
 .rintro⟨h,k⟩;exact⟨e _ _ _ _ h,k⟩
 .rintro⟨h,k⟩;exact⟨e _ _ _ _ h,k⟩
theorem IC(a b c d:Pn):wO b a c d=wO a b c d:=by
 have e1:vQ b a c d=vQ a b c d:=by unfold vQ;rw[jnt b.1,jnu b.1,jnt b.2,jnu b.2]
 have e2:Qi b a c d=Qi a b c d:=by unfold Qi;rw[jb6,xB]
 have e3:(decide (b≠c) &&decide (b≠d) &&decide (a≠c) &&decide (a≠d))=(decide (a≠c) &&decide (a≠d) &&decide (b≠c) &&decide (b≠d)):=by
  cases decide (b≠c)<;>cases decide (b≠d)<;>cases decide (a≠c)<;>cases decide (a≠d)<;>rfl
 have e4:decide ((b=c/\a=d)\/(b=d/\a=c))=decide ((a=c/\b=d)\/(a=d/\b=c)):=decide_eq_decide.2 ⟨λh=>h.elim (λh=>.inr ⟨h.2,h.1⟩) λh=>.inl ⟨h.2,h.1⟩,λh=>h.elim (λh=>.inr ⟨h.2,h.1⟩) λh=>.inl ⟨h.2,h.1⟩⟩;unfold wO;rw[e1,e2,e3,e4]
theorem Dl(a b c d:Pn):wO a b d c=wO a b c d:=by
 have e1:vQ a b d c=vQ a b c d:=by unfold vQ;rw[jnt d.1,jnu d.1,jnt d.2,jnu d.2]
 have e0:qC a b d c=qC a b c d:=by rw[<-Yf,xB,Yf]
 have e2:Qi a b d c=Qi a b c d:=by unfold Qi;rw[Cz,e0]
 have e3:(decide (a≠d) &&decide (a≠c) &&decide (b≠d) &&decide (b≠c))=(decide (a≠c) &&decide (a≠d) &&decide (b≠c) &&decide (b≠d)):=by
  cases decide (b≠c)<;>cases decide (b≠d)<;>cases decide (a≠c)<;>cases decide (a≠d)<;>rfl
 have e4:decide ((a=d/\b=c)\/(a=c/\b=d))=decide ((a=c/\b=d)\/(a=d/\b=c)):=decide_eq_decide.2 or_comm;unfold wO;rw[e1,e2,e3,e4]
theorem LU{F:List Leg}(hP:Yz E)(h:∀e∈F,∃e0∈E,e=e0\/e=qW e0):Yz F:=by
 intro e he f hf;obtain⟨e0,he0,ke⟩:=h e he;obtain⟨f0,hf0,kf⟩:=h f hf;have h0:=hP e0 he0 f0 hf0
 rcases ke with rfl|rfl<;>rcases kf with rfl|rfl
 .exact h0
 .show wO (lA e) (lB e) (lB f0) (lA f0)=true;rw[Dl];exact h0
 .show wO (lB e0) (lA e0) (lA f) (lB f)=true;rw[IC];exact h0
 .show wO (lB e0) (lA e0) (lB f0) (lA f0)=true;rw[IC,Dl];exact h0
theorem jfh(hP:Yz E):NoX E:=λe he f hf hs=>by
 have h:=hP e he f hf;have m:=Gs hs
 have hap:¬vQ (lA e) (lB e) (lA f) (lB f)=true:=λk=>by rw[XL k] at m;cases m
 unfold wO at h;rw[if_neg hap,if_pos m] at h;cases h
theorem jal{hot:List Pn}(hnd:hot.Nodup):∀n {rs:List jI},bareG hot rs->bareG hot (Ta hot n rs)
 |0,_,h=>h
 |n+1,_,h=>jal hnd n (h.snap hnd)
theorem jda{hot2:List Pn}(hnd:hot2.Nodup)(hsub:∀p∈hot2,p∈hot)(hb2:bareG hot2 ss)(hw:∀e∈jH ss,∀x∈qJ (lA e) (lB e) hot,x=lA e\/x=lB e):q8 hot2 ss=ss:=by
 have one:∀r∈ss,Ko hot2 r=r:=λr hr=>by
  obtain⟨br,bm⟩:=hb2 r hr;rw[Uu br];have hp:∀d∈KN r,QA hot2 d=[d.1]:=λd hd=>by
   have he:mkL d∈jH ss:=zH.2 ⟨r,hr,by rw[QQ br];exact jlR.2 ⟨d,hd,rfl⟩⟩;have hwd:=hw _ he
   obtain⟨o1,o2,o3⟩:=YZ br bm d hd;obtain⟨mid,hm⟩:=xX o1 o2 o3;have hn:=uY (a:=d.1) (b:=d.2) hnd
   rw[hm] at hn;have hmid:mid=[]:=by
    cases hmm:mid with
    |nil=>rfl
    |cons x l=>
     exfalso;rw[hmm] at hm hn;have hx:x∈qJ d.1 d.2 hot2:=by rw[hm];simp
     obtain⟨x1,x2⟩:=KV.1 hx;have hx3:x∈qJ d.1 d.2 hot:=KV.2 ⟨hsub x x1,x2⟩
     have hx4:x=d.1\/x=d.2:=hwd x hx3;simp only[jmf,jmY,jlP,jl0,jmi,or_false,not_or] at hn;rcases hx4 with e|e
     .exact hn.1.1 e.symm
     .exact hn.2.1.2 e
   unfold QA;rw[hm,hmid];rfl
  have:(KN r).flatMap (QA hot2)=(KN r).map (·.1):=by
   have key:∀l:List (Pn×Pn),(∀d∈l,QA hot2 d=[d.1])->l.flatMap (QA hot2)=l.map (·.1):=λl=>by
    induction l with
    |nil=>intro _;rfl
    |cons d l ih=>intro h;rw[jl4,h d (by simp),ih (λe he=>h e (jlQ _ he))];rfl
   exact key _ hp
  rw[this,WJ]
 unfold q8;exact(jnL one).trans (by simp)
theorem CmOk.keys(h:CmOk rs ss)(ha:ud rs ss=true)(hb:Uz rs ss=true):
  Keys (KF (jH (Ui rs ss)++jH (ur rs ss))) (jH (Ui rs ss))/\Keys (KF (jH (Ui rs ss)++jH (ur rs ss))) (jH (ur rs ss)):=by
 have hT:=h.two ha hb;have hP:=h.pair ha hb
 obtain⟨r1,_⟩:=xy h.hot1 ha;obtain⟨r2,_⟩:=xy h.hot2 hb;exact⟨RL (zC _) (λq=>yk) hT.ne hP (λe he=>jmH _ he) (YK r1).close,
  RL (zC _) (λq=>yk) hT.ne hP (λe he=>jnd _ he) (YK r2).close⟩
theorem CmOk.way(h:CmOk rs ss)(ha:ud rs ss=true)(hb:Uz rs ss=true){e:Leg}(he:e∈jH (Ui rs ss)++jH (ur rs ss)):
  lA e∈uA rs ss/\lB e∈uA rs ss/\qJ (lA e) (lB e) (uA rs ss)=[lA e,lB e]:=by
 have one:∀{qs:List jI},HotOk (uA rs ss) qs->FH (uA rs ss) qs=true->e∈jH (SO (uA rs ss) qs)->lA e∈uA rs ss/\lB e∈uA rs ss/\qJ (lA e) (lB e) (uA rs ss)=[lA e,lB e]:=λ{qs} hk ho he=>by
  obtain⟨_,f,n,i⟩:=xy hk ho;have hbg:bareG (uA rs ss) (SO (uA rs ss) qs):=by rw[i];exact jal hk.nd n hk.bare
  obtain⟨a1,a2,_,a4⟩:=Mc hbg f he;exact⟨a1,a2,a4⟩
 rcases jl0.1 he with he|he
 .exact one h.hot1 ha he
 .exact one h.hot2 hb he
theorem SG{α:Type}{f:α->Int}:∀{l:List α},(∀x∈l,0<=f x)->sm f l=0->∀x∈l,f x=0
 |[],_,_,x,hx=>by cases hx
 |a::l,h,hs,x,hx=>by
  have h1:=h a (jl7 ..);have h2:=L5 (l:=l) (f:=f) λy hy=>h y (jlQ _ hy)
  simp only[sm] at hs;rcases jlP.1 hx with rfl|hx
  .omega
  .exact SG (λy hy=>h y (jlQ _ hy)) Om x hx
theorem Pl{B:List Leg}(hne:∀l∈B,lA l≠lB l)(hc:∀v,sm (λl=>Um v (lA l)-Um v (lB l)) B=0)(hr:JG (vm (Ki B))=true):∀r∈vm (Ki B),bare r:=by
 have s:sm (Bm λa b=>if a=b then 1 else 0) (vm (Ki B))=0:=by
  rw[jaQ];refine(I3 (λa b=>if a=b then 1 else 0) hc).trans ?_
  exact(JC λl hl=>if_neg (hne l hl)).trans (Q0 B)
 have nn:∀r:List Pn,∀j∈List.range r.length,0<=(λj=>(if pt r j=pt r (nx r j) then(1:Int) else 0)) j:=λr j _=>by
  simp only;split<;>decide
 have z:=SG (λr _=>by rw[Lm];exact L5 (nn r)) s;intro r h;refine⟨Du hr r h,λj hj e=>?_⟩;have zr:=z r h
 rw[Lm] at zr;have:=SG (nn r) zr j (jmB.2 hj)
 simp only[if_pos e] at this;cases this
structure OvK (rs ss:List jI) (how:Int) (T:List jI):Prop where
 fit:UL T []=true
 r:Fj T [] 1=T
 c:Cl T [] 1=0
 pair:Yz (jH T)
 perm:(jH T).Perm (Qp rs ss how)
 src:∀e∈jH T,∃e0∈jH (Ui rs ss)++jH (ur rs ss),e=e0\/e=qW e0
theorem jlv{how:Int}(h:CmOk rs ss)(ha:ud rs ss=true)(hb:Uz rs ss=true)(hT:JG (vm (vX rs ss how))=true):OvK rs ss how (vm (vX rs ss how)):=by
 obtain⟨T,eT⟩:∃T,T=vm (vX rs ss how):=⟨_,rfl⟩;rw[<-eT] at hT⊢;have eT':T=vm (Ki (Qp rs ss how)):=eT
 have hTw:=h.two ha hb;obtain⟨k1,k2⟩:=h.keys ha hb;have hB:Qp rs ss how=Va (KF (jH (Ui rs ss)++jH (ur rs ss))) (jH (Ui rs ss)) (jH (ur rs ss)) how:=Ch _ _ _
 have hc:∀v,sm (λl=>Um v (lA l)-Um v (lB l)) (Qp rs ss how)=0:=λv=>by rw[hB];exact XP k1 k2 v
 have hm:∀l∈Qp rs ss how,∃e∈jH (Ui rs ss)++jH (ur rs ss),(l=e\/l=qW e):=λl hl=>GP hTw hl
 have hne:∀l∈Qp rs ss how,lA l≠lB l:=λl hl=>by
  obtain⟨e,he,k⟩:=hm l hl;have:=hTw.ne e he
  rcases k with rfl|rfl
  .exact this
  .exact λz=>this z.symm
 have perm:(jH T).Perm (Qp rs ss how):=by rw[eT'];exact Pm hne hc
 have src:∀e∈jH T,∃e0∈jH (Ui rs ss)++jH (ur rs ss),e=e0\/e=qW e0:=λe he=>hm e (perm.mem_iff.1 he)
 have hPT:Yz (jH T):=LU (h.pair ha hb) src;have hnx:=jfh hPT
 have hbare:∀r∈T,bare r:=by rw[eT'];exact Pl hne hc (by rw[<-eT'];exact hT)
 have hid:=jbP hbare;have e0:jH ([]:List jI)=[]:=rfl
 have hT2:CmOk T []:=⟨hT,rfl,by rw[e0,jl9];exact zP hT⟩;have hot2:=hT2.hot1
 rw[hid] at hot2;have hsub:∀p∈uA T [],p∈uA rs ss:=λp hp=>by
  unfold uA Ro at hp;rw[e0,jl9] at hp;obtain⟨k,hk,e⟩:=jaf hnx _ (jlL _) ((yv _ _).1 hp);have hmem:lg (jH T) k∈jH T:=by rw[BR hk];exact jlY _
  obtain⟨x,hx,kx⟩:=src _ hmem;obtain⟨a1,a2,_⟩:=h.way ha hb hx;rcases kx with kx|kx<;>rw[kx] at e<;>rcases e with e|e<;>rw[e]
  .exact a1
  .exact a2
  .exact a2
  .exact a1
 have hway:∀e∈jH T,∀x∈qJ (lA e) (lB e) (uA rs ss),x=lA e\/x=lB e:=λe he x hx=>by
  obtain⟨e1,he1,k⟩:=src e he;obtain⟨_,_,w⟩:=h.way ha hb he1;rcases k with rfl|rfl
  .rw[w] at hx;simpa using hx
  .have hx':x∈qJ (lB e1) (lA e1) (uA rs ss):=hx;rw[Pu h.hot1.nd,w] at hx';have:x=lB e1\/x=lA e1:=by simpa using hx'
   exact this
 have fix2:q8 (uA T []) T=T:=jda hot2.nd hsub hot2.bare hway;have st2:Mb (uA T []) (ql T)=some (T,0):=by
  rw[hid];show Zx (uA T []) (401+1) T 0=_
  unfold Zx;rw[fix2,if_neg (by rw[hT];decide),if_pos rfl]
 have a1:Ui T []=T:=(zY st2).1;have o1:ud T []=true:=(zY st2).2.2
 have m2:Mb (uA T []) (ql [])=some ([],0):=by
  have e0:∀f,Zx (uA T []) (f+1) [] 0=some ([],0):=λf=>rfl
  exact e0 401
 have a2:ur T []=[]:=(zY m2).1;have o2:Uz T []=true:=(zY m2).2.2
 have hfit:UL T []=true:=by
  unfold UL;rw[o1,o2,decide_eq_true hT2.len];rfl
 have hbrd:Qp T [] 1=Qp rs ss how:=by
  have e1:Qp T [] 1=vW (jH T) [] 1:=by unfold Qp;rw[a1,a2];rfl
  rw[e1,Ch,jl9,hB];refine jbW k1 k2 ?_ λp=>by rw[<-hB];exact BU perm p
  refine GH (Ns _) ((Ns _).filter _) λq=>?_
  rw[yk,jmx];constructor
  .rintro⟨e,he,rfl⟩;have he':=perm.mem_iff.1 he
   rw[hB] at he';obtain⟨p,hp,hl⟩:=Cg he';obtain⟨n1,n2,_,_⟩:=YT (k1.ord p hp);have hn:qh e=p:=by rcases Dy hl with k|k<;>rw[k]<;>assumption
   rw[hn];refine⟨hp,?_⟩;cases hs:zS p (QW (Q5 (jH (Ui rs ss)) p).left (Q5 (jH (ur rs ss)) p).left how) (QW (Q5 (jH (Ui rs ss)) p).right (Q5 (jH (ur rs ss)) p).right how) with
   |nil=>rw[hs] at hl;cases hl
   |cons x l=>rfl
  .rintro⟨hq,hs⟩;cases hs2:zS q (QW (Q5 (jH (Ui rs ss)) q).left (Q5 (jH (ur rs ss)) q).left how) (QW (Q5 (jH (Ui rs ss)) q).right (Q5 (jH (ur rs ss)) q).right how) with
   |nil=>rw[hs2] at hs;cases hs
   |cons x l=>
    have hx:x∈zS q (QW (Q5 (jH (Ui rs ss)) q).left (Q5 (jH (ur rs ss)) q).left how) (QW (Q5 (jH (Ui rs ss)) q).right (Q5 (jH (ur rs ss)) q).right how):=by rw[hs2];exact jl7 ..
    obtain⟨n1,n2,_,_⟩:=YT (k1.ord q hq);refine⟨x,perm.mem_iff.2 (by rw[hB];exact jm8.2 ⟨q,hq,hx⟩),?_⟩;rcases Dy hx with k|k<;>rw[k]
    .exact n1.symm
    .exact n2.symm
 have hcm:vm (vX T [] 1)=T:=by
  have e1:vX T [] 1=Ki (Qp rs ss how):=by unfold vX;rw[hbrd]
  rw[e1,<-eT']
 refine⟨hfit,?_,?_,hPT,perm,src⟩
 .unfold Fj;rw[if_pos hfit,hcm];exact if_pos hT
 .unfold Cl;rw[if_pos hfit,hcm];exact if_pos hT
end
section
variable{h:Bool}{k:Nat}{ls:List Leg}{x y:Int}
set_option maxRecDepth 100000
set_option maxHeartbeats 4000000
def onL(l:Leg)(x y:Int):Bool:=Tc l.ax l.ay l.bx l.b_y x y
def ZN(h:Bool)(ls:List Leg)(x y:Int):Bool:=ls.any λl=>onL (ko h l) x y
def LE(h:Bool)(ls:List Leg)(x y:Int)(k:Nat):Prop:=∀j,j<k->onL (ko h (lg ls j)) x y=false
theorem Pb(hk:LE h ls x y k)(h1:onL (ko h (lg ls k)) x y=false):LE h ls x y (k+1):=λj hj=>by
 by_cases e:j=k
 .exact e▸h1
 .exact hk j Om
theorem Cd(hk:LE h ls x y ls.length):ZN h ls x y=false:=by
 unfold ZN;rw[List.any_eq_false];intro l hl;obtain⟨j,hj,rfl⟩:=jmq hl;rw[uu hj];simpa using hk j hj
theorem Ce(hk:k<ls.length)(h1:onL (ko h (lg ls k)) x y=true):ZN h ls x y=true:=by
 unfold ZN;rw[List.any_eq_true];exact⟨ls[k],jlY hk,by rw[uu hk];exact h1⟩
theorem jjy(l:Leg):ko false l=l:=by simp[ko]
theorem jjz(l:Leg):ko true l=⟨2*l.ax,2*l.ay,2*l.bx,2*l.b_y⟩:=by simp[ko]
theorem Sh(l:Leg)(b1_ b2_:Nat)(x y:Int)(hf:Bool)(w:World)(hl:qK l)(hx:Uo x)(hy:Uo y)(h1:w.heap[b1_]? =some (.cells [.bool hf].toArray 4 (0,0)))(h2:w.heap[b2_]? =some (.cells [.int .i64 x,.int .i64 y].toArray 36 (0,0))):
  Calls Tryz.prog 74 #[.agg #[.int .i64 l.ax,.int .i64 l.ay,.int .i64 l.bx,.int .i64 l.b_y],.pointer (some ⟨b1_,0,none⟩),.pointer (some ⟨b2_,0,none⟩)] w λe w'=>e=.returned (.bool (onL (ko hf l) x y))/\Over w w':=by
 have m1:∀{Rs},∀w',St ⟨w,[]⟩ Rs w'->w'.cell? ⟨b1_,0,none⟩=some (.bool hf):=λw' hs=>(cell_of_row w' b1_ 0 _ _ (0,0) ((hs.fin.out.block _ (J3 h1)).trans h1)).trans rfl
 have m2:∀{Rs},∀w',St ⟨w,[]⟩ Rs w'->∀q v,[Value.int .i64 x,Value.int .i64 y][q]? =some v->w'.cell? ⟨b2_,0+q,none⟩=some v:=λw' hs q v hv=>by
  rw[cell_of_row w' b2_ _ _ _ (0,0) ((hs.fin.out.block _ (J3 h2)).trans h2),jmd];simpa using hv
 obtain⟨d1,d2,d3,d4⟩:=jjL hl;obtain⟨f1,f2,f3,f4⟩:=jhv hl;obtain⟨⟨e1,e2⟩,⟨e3,e4⟩,⟨e5,e6⟩,e7,e8⟩:=hl;refine Jm (m:=20) (Tryz.func74) J J (lb J) ?_;refine S3 ?_;refine aX (λb1=>?_);refine N5 ?_;refine a9 (jn J J QT (m1)) ?_;refine S1 ?_;refine cZ (λc1=>?_) (λc1=>?_)
 .refine S2 ?_;refine JY 9 ?_;refine dK 0 ?_;refine dK 1 ?_;refine dZ 2 J (jT W7 J J (λw h=>zv _ _ w ⟨by omega,by omega⟩ ⟨by omega,by omega⟩)) ?_;refine dK 3 ?_;refine dK 4 ?_;refine dZ 5 J (jT W7 J J (λw h=>zv _ _ w ⟨by omega,by omega⟩ ⟨by omega,by omega⟩)) ?_;refine dZ 6 J (jj J J jk J (m2)) ?_;refine dZ 7 rfl (jT KG rfl rfl (λw h=>Yt _ _ _ _ _ _ w (by first|exact d1|exact f1) (by first|exact d2|exact f2) (by first|exact d3|exact f3) (by first|exact d4|exact f4) hx hy)) ?_;refine dK 8 ?_;refine JK Kr ?_;refine S3 ?_;refine jK J (.tmp J) ?_
  intro w' hs;exact⟨Q4 (by rw[c1,jjz];rfl),hs.fin⟩
 .refine S8 ?_;refine a9 (jj J J jk J (m2)) ?_;refine a9 (jT KG rfl rfl (λw h=>Yt _ _ _ _ _ _ w (by first|exact d1|exact f1) (by first|exact d2|exact f2) (by first|exact d3|exact f3) (by first|exact d4|exact f4) hx hy)) ?_;refine S3 ?_;refine jK J (.tmp J) ?_
  intro w' hs;exact⟨Q4 (by rw[c1,jjy];rfl),hs.fin⟩
def BC(h:Bool)(ls:List Leg)(x y:Int):Int:=if ZN h ls x y=true then((ls.findIdx λl=>onL (ko h l) x y:Nat):Int) else-1
theorem jev(hk:k<ls.length)(hn:LE h ls x y k)(h1:onL (ko h (lg ls k)) x y=true):(k:Int)=BC h ls x y:=by
 have:ls.findIdx (λl=>onL (ko h l) x y)=k:=(List.findIdx_eq hk).2 ⟨by rw[uu hk];exact h1,λj hj=>by rw[uu Om];exact hn j hj⟩;rw[BC,if_pos (Ce hk h1),this]
theorem CG(hk:LE h ls x y ls.length): -1=BC h ls x y:=by
 rw[BC,if_neg (by rw[Cd hk];simp)]
theorem jew(h:Bool)(ls:List Leg)(x y:Int):decide (0<=BC h ls x y)=ZN h ls x y:=by
 cases e:ZN h ls x y<;>simp[BC,e]
abbrev onF(p q:Nat):Value:=.func (.func 74) #[] #[.pointer (some ⟨p,0,none⟩),.pointer (some ⟨q,0,none⟩)]
theorem Fc(A:Option Addr)(n c:Nat)(ls:List Leg)(p q:Nat)(x y:Int)(hf:Bool)(w:World)(h:Legs w A n ls)(hn:n<=1048576)(hok:∀l∈ls,qK l)(hx:Uo x)(hy:Uo y)(h1:w.heap[p]? =some (.cells [.bool hf].toArray 4 (0,0)))(h2:w.heap[q]? =some (.cells [.int .i64 x,.int .i64 y].toArray 36 (0,0))):
  Calls Tryz.prog 100 #[.slice A n c,onF p q] w λe w'=>e=.returned (.int .i64 (BC hf ls x y))/\Over w w':=by
 have hl:=h.1;refine Jm (m:=19) (Tryz.func100) J J (lb J) ?_;refine S12 ?_;refine qD (X:=Nat) (λk=>k<=n/\LE hf ls x y k) (λk=>n-k) (λk=>[(8,.int .i64 (k:Int))]) (kK [0,1,4,7]) 0 (⟨jlN _,λj hj=>absurd hj Om⟩) ⟨J,sz⟩ ?_;intro k hk L hL1;refine V5 ?_;refine cZ (λc1=>?_) (λc1=>?_)
 .have hlt:k<n:=Om;obtain⟨bb,oo,rfl⟩:=h.form Om;refine S15 ?_;refine a9 (jj J J qF J (Ya (λw' hs=>h.over hs.fin) hlt)) ?_;refine a9 (jfC Ho J J J (λw1 hs=>Sh (lg ls k) p q x y hf w1 (ky hok Om) hx hy ((hs.fin.out.block _ (J3 h1)).trans h1) ((hs.fin.out.block _ (J3 h2)).trans h2))) ?_;refine S1 ?_;refine cZ (λc2=>?_) (λc2=>?_)
  .refine S11 ?_;refine jK J (.tmp J) ?_;intro w' hs;exact⟨Y1 (jev (show k<ls.length by omega) hk.2 c2),hs.fin⟩
  .refine S7 ?_;exact J6 hL1 (k+1) (⟨by omega,Pb hk.2 c2⟩) Om ⟨vi Om,sz⟩ (u9 J)
 .refine S10 ?_;refine jK J (.tmp J) ?_;intro w' hs;exact⟨Y1 (CG (by rw[hl,show n=k by omega];exact hk.2)),hs.fin⟩
theorem Le(A:Option Addr)(n c:Nat)(ls:List Leg)(p q:Nat)(x y:Int)(hf:Bool)(w:World)(h:Legs w A n ls)(hn:n<=1048576)(hok:∀l∈ls,qK l)(hx:Uo x)(hy:Uo y)(h1:w.heap[p]? =some (.cells [.bool hf].toArray 4 (0,0)))(h2:w.heap[q]? =some (.cells [.int .i64 x,.int .i64 y].toArray 36 (0,0))):
  Calls Tryz.prog 73 #[.slice A n c,onF p q] w λe w'=>e=.returned (.bool (ZN hf ls x y))/\Over w w':=by
 refine Jm (m:=9) (Tryz.func73) J J (lb J) ?_;refine S8 ?_;refine a9 (jT VT J J (λw1 hs=>Fc A n _ ls p q x y hf w1 (h.over hs.fin) hn hok hx hy ((hs.fin.out.block _ (J3 h1)).trans h1) ((hs.fin.out.block _ (J3 h2)).trans h2))) ?_;refine S4 ?_;refine jK J (.tmp J) ?_;intro w' hs;exact⟨Q4 (jew _ _ _ _),hs.fin⟩
theorem Pd(A:Option Addr)(n c:Nat)(ls:List Leg)(x y:Int)(hf:Bool)(w:World)(h:Legs w A n ls)(hn:n<=1048576)(hok:∀l∈ls,qK l)(hx:Uo x)(hy:Uo y):
  Calls Tryz.prog 53 #[.slice A n c,Wh x y,.bool hf] w λe w'=>e=.returned (.bool (ZN hf ls x y))/\Over w w':=by
 refine Jm (m:=10) (Tryz.func53) J J (lb J) ?_;refine S3 ?_;refine aX (λb1=>?_);refine N1 ?_;refine aX (λb2=>?_);refine N5 ?_;refine a9 (PE J J) ?_;refine a9 (jT Vp J J (λw1 hs=>Le A n _ ls _ _ x y hf w1 (h.over hs.fin) hn hok hx hy (hs.cel (k:=1) J) (hs.cel (k:=0) J))) ?_;refine S3 ?_;refine jK J (.tmp J) ?_;intro w' hs;exact⟨rfl,hs.fin⟩
end
section
end
section
variable{rs:List jI}
set_option maxRecDepth 100000
set_option maxHeartbeats 4000000
def GB(rs:List jI):Int:=if JG rs=true then QR (jH rs) else 0
def atC(rs:List jI):Int:=if JG rs=true then 0 else 1
theorem jkG(h:JG rs=false):Ending.returned (.tuple #[.int .i64 0,.int .i64 1])=Ending.returned (.tuple #[.int .i64 (GB rs),.int .i64 (atC rs)]):=by simp[GB,atC,h]
theorem jje(h:JG rs=true):Ending.returned (.tuple #[.int .i64 (QR (qx rs rs.length)),.int .i64 0])=Ending.returned (.tuple #[.int .i64 (GB rs),.int .i64 (atC rs)]):=by
 have e1:GB rs=QR (qx rs rs.length):=if_pos h;have e2:atC rs=0:=if_pos h
 rw[e1,e2]
theorem CS(rs:List jI)(k:Nat):QR (qx rs k)+vO (rg rs k) (rg rs k).length=QR (qx rs (k+1)):=by
 have e:qx rs (k+1)=qx rs k++Jh (rg rs k):=rfl;rw[e,Uj,XZ]
theorem EK{rs:List jI}(h:JG rs=true):∀k,k<=rs.length->∀l∈qx rs k,qK l
 |0,_,l,hl=>by simp[qx] at hl
 |k+1,hk,l,hl=>by
  simp only[qx,jl0] at hl;rcases hl with h1|h1
  .exact EK h k Om l h1
  .exact uL (kM (kg h (show k<rs.length by omega))).2.2 _ (jlL _) l h1
theorem jgG(h:JG rs=true){k:Nat}(hk:k<rs.length):(-2251799813685248<=QR (qx rs k)/\QR (qx rs k)<=2251799813685248)∧-54975581388800<=vO (rg rs k) (rg rs k).length/\vO (rg rs k) (rg rs k).length<=54975581388800:=by
 obtain⟨r1,r2,r3⟩:=kM (kg h hk);obtain⟨t1,t2⟩:=Gt r3 _ (jlL _);obtain⟨u1,u2⟩:=xQ (qx rs k) (EK h k Om);have h1:=YA rs k
 have h2:=PS h k Om;have h3:=V0 h
 exact⟨⟨by omega,by omega⟩,by omega,by omega⟩
theorem Ye(A:Option Addr)(n c:Nat)(rs:List jI)(w:World)(h:Rings w A n rs)(ht:(total rs:Int)<=1048577):
  Calls Tryz.prog 7 #[qU A n c] w λe w'=>e=.returned (.tuple #[.int .i64 (GB rs),.int .i64 (atC rs)])/\Over w w':=by
 have hl:=h.1;refine Jm (m:=25) (Tryz.func7) J J (lb J) ?_;refine S3 ?_;refine aX (λb1=>?_);refine N6 ?_;refine a9 (jT Uk J J (λw1 hs=>jch _ _ A n c rs w1 (qr (k:=0) J J w1 hs) (J3 (hs.cel (k:=0) J)) (h.over hs.fin) ht)) ?_;refine S2 ?_;refine cZ (λc1=>?_) (λc1=>?_)
 .refine S7 ?_;refine qG J (.tmp J) (.tmp J) ?_;intro w' hs;exact⟨jkG c1,hs.fin⟩
 .have hr:JG rs=true:=c1;have hn4:=V0 hr
  refine S12 ?_;refine qD (X:=Nat) (λk=>k<=n) (λk=>n-k) (λk=>[(4,.int .i64 (QR (qx rs k))),(5,.int .i64 (k:Int))]) (kK [1,2,3]) 0 (jlN _) ⟨J,sz⟩ ?_;intro k hk L hL1;refine V9 ?_;refine cZ (λc2=>?_) (λc2=>?_)
  .have hlt:k<n:=Om;obtain⟨eb,eo,Ak,ck,rfl,hbB,hcell,hpts,hmax⟩:=h.at_ hlt;obtain⟨r1,r2,r3⟩:=kM (kg hr (show k<rs.length by omega));obtain⟨⟨a1,a2⟩,a3,a4⟩:=jgG hr (show k<rs.length by omega);refine S11 ?_;refine a9 (jn J J JH (jkj hcell hbB)) ?_;refine a9 (jT LP J J (λw1 hs=>RQ Ak _ ck (rg rs k) w1 (hpts.over hs.fin) Om r3)) ?_;refine S10 ?_;exact J6 hL1 (k+1) (Om) Om ⟨vi (CS rs k),vi Om,sz⟩ (u9 J)
  .have hkn:k=rs.length:=Om;subst hkn;refine S12 ?_;refine qG J (.tmp J) (.tmp J) ?_;intro w' hs;exact⟨jje hr,hs.fin⟩
end
end Go.Proofs.YtjbahemkhphndaaGreat
