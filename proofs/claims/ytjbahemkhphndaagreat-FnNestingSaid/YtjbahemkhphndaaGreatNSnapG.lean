import Derived.Test.YtjbahemkhphndaaGreatNRounds
import Derived.Test.YtjbahemkhphndaaGreatNHotLaw
import Derived.Test.YtjbahemkhphndaaGreatNCross
import Derived.Test.YtjbahemkhphndaaGreatNOwn
set_option linter.unusedVariables false
set_option linter.unusedSimpArgs false
namespace Go.Proofs.YtjbahemkhphndaaGreat
open Go Go.RowKit
variable{A:Option Addr}{V:Option Addr->Nat->Value}{args:Array Value}{e p:Leg}{k:Nat}{rs ss:List jI}{s:Bool}{α:Type}
def jhn(E:List Leg):List Pn:=Kd (zb E E.length)
theorem C2{a b c d:Pn}(h:Qi a b c d=2):qC a b c d=true:=by
 unfold Qi at h;split at h
 .split at h
  .rename_i h1;exact h1
  .omega
 .split at h<;>omega
theorem Nk{E:List Leg}:∀i,i<=E.length->∀k,k<i->lA (lg E k)∈zb E i/\lB (lg E k)∈zb E i
 |0,_,k,hk=>absurd hk Om
 |i+1,hi,k,hk=>by
  rw[zb];rcases jmT (show k<=i by omega) with h|rfl
  .obtain⟨h1,h2⟩:=Nk (E:=E) i Om k h;exact⟨jmH _ (jmH _ h1),jmH _ (jmH _ h2)⟩
  .exact⟨jmH _ (jnd _ (by simp)),jmH _ (jnd _ (by simp))⟩
theorem jd9{E:List Leg}(hok:∀l∈E,qK l){i:Nat}(hi:i<E.length):∀k,k<=i->∀p∈cz E i k,bd2 p
 |0,_,p,hp=>by simp[cz] at hp
 |k+1,hk,p,hp=>by
  rw[cz] at hp;rcases jl0.1 hp with h|h
  .exact jd9 hok hi k Om p h
  .split at h
   .rename_i hm;rw[jlM.1 h];exact(jb3 (WG (ky hok Om)) (uB (ky hok Om)) (C2 hm)).1
   .simp at h
theorem jae{E:List Leg}(hok:∀l∈E,qK l):∀i,i<=E.length->∀p∈zb E i,bd2 p
 |0,_,p,hp=>by simp[zb] at hp
 |i+1,hi,p,hp=>by
  rw[zb] at hp;rcases jl0.1 hp with h|h
  .rcases jl0.1 h with h|h
   .exact jae hok i Om p h
   .simp only[jlP,jmi,or_false] at h;rcases h with rfl|rfl
    .exact WG (ky hok Om)
    .exact uB (ky hok Om)
  .exact jd9 hok Om i (jlL _) p h
theorem jbM{l:List Pn}(h:Asc l):l.Nodup:=List.Pairwise.imp (λ{a b} (hab:vv a b) (e:a=b)=>kX a (by rw[<-e] at hab;exact hab)) h
theorem BR{E:List Leg}(hk:k<E.length):lg E k=E[k]:=by simp[lg,List.getD,hk]
theorem Bd{rs:List jI}:∀k,k<=rs.length->cnt (vR rs k)=(qx rs k).length
 |0,_=>rfl
 |k+1,hk=>by
  have ih:=Bd (rs:=rs) k Om;have e:(qx rs (k+1)).length=(qx rs k).length+(Jh (rg rs k)).length:=jlJ
  have e2:(vx (rg rs k)).length=(Jh (rg rs k)).length:=jlV ..;by_cases h:0<(vx (rg rs k)).length
  .rw[zk Om h,e,<-ih];simp[cnt,e2]
  .rw[xI Om h,e,<-ih];omega
theorem ZQ(hr:JG rs=true):∀r∈ql rs,bare r:=λr h=>by
 obtain⟨h0,q,hq,rfl⟩:=XN h;obtain⟨i,hi,e⟩:=jmq hq;have:=Qj (kg hr hi)
 rw[wb hi] at e;rw[e] at this;exact Ii this.1 h0
theorem jhs{xs:List Pn}(h:qM xs=true):∀p∈vx xs,WT p.1 p.2=true:=λp hp=>by
 obtain⟨l,hl,rfl⟩:=jlR.1 hp;exact zl (WG (uL (kM h).2.2 _ (jlL _) l hl))
theorem zh(hr:JG rs=true):JG (ql rs)=true:=by
 have h40:=V0 hr;have hl:=XM rs rs.length
 have hcnt:(jH (ql rs)).length<=400:=by
  rw[GU (ZQ hr)];have:=Bd (rs:=rs) rs.length (jlL _)
  have h4:(jH rs).length<=400:=by simp[JG] at hr;omega
  unfold jH at h4;unfold ql;omega
 have hall:(ql rs).all qM=true:=jm4.2 λr h=>by
  have hs:=X3 hr h;obtain⟨h0,q,hq,rfl⟩:=XN h;obtain⟨i,hi,e⟩:=jmq hq;have hb:=kg hr hi
  rw[wb hi] at e;rw[e] at hb;unfold qM X2;rw[decide_eq_true (show(1:Int)<=((vx q).length:Int) by omega),decide_eq_true (show((vx q).length:Int)<=400 by omega)];exact jm4.2 λp hp=>jhs hb p hp
 rw[Ua (by unfold ql;omega) hall];exact decide_eq_true hcnt
structure HotOk (hot:List Pn) (ss:List jI):Prop where
 reg:JG ss=true
 ok:∀p∈hot,WT p.1 p.2=true
 asc:Asc hot
 nd:hot.Nodup
 len:hot.length<=1048576
 bare:bareG hot ss
theorem IX{hot:List Pn}(hnd:hot.Nodup):∀(f:Nat) {rs ss:List jI} {r q:Nat},JG rs=true->bareG hot rs->Zx hot f rs r=some (ss,q)->JG ss=true
 |0,_,_,_,_,_,_,h=>by cases h
 |f+1,rs,ss,r,q,hr,hb,h=>by
  rw[Zx] at h;split at h
  .cases h
  .rename_i h1;split at h
   .injection h with h
    injection h with h2 h3
    exact h2▸hr
   .exact IX hnd f (by simpa using h1) (hb.snap hnd) h
theorem jgc{hot:List Pn}(hnd:hot.Nodup){r:Nat}(hr:JG rs=true)(hb:bareG hot rs)(h:Mb hot rs=some (ss,r)):JG ss=true:=IX hnd _ hr hb h
theorem jem{P:Program}{f:FuncId}{w1:World}{n lo hi:Nat}{c:Nat}(hg:(K4 n ss lo hi A).P w1)(hn:ss.length=n)(h:Calls P f args w1 λe w'=>∃A' c',e=.returned (V A' c')/\((A'=A/\c'=c/\rs=ss)\/OwnG w1.heap.size w'.heap.size w' A' rs.length rs)/\Over w1 w'):
  Calls P f args w1 λe w'=>∃x:(Option Addr×Nat)×Nat×Nat,e=.returned (V x.1.1 x.1.2)/\Wrs (K4 n ss lo hi A).F w1 w'/\(K4 rs.length rs x.2.1 x.2.2 x.1.1).P w'/\(∀b,(K4 rs.length rs x.2.1 x.2.2 x.1.1).F b->(K4 n ss lo hi A).F b\/w1.heap.size<=b)/\(K4 rs.length rs x.2.1 x.2.2 x.1.1).B=0:=by
 refine h.mono ?_;rintro e w' ⟨A',c',rfl,ho,hO⟩;rcases ho with⟨rfl,rfl,rfl⟩|ho
 .subst hn;have hz:hi<=w1.heap.size:=hg.1
  exact⟨((A',c'),lo,hi),rfl,Wrs.of hO,jb9 ((yg hg).agree λb h1 h2=>hO.out.block b Om) (jmC hz hO.size),λb hb=>.inl hb,rfl⟩
 .exact⟨((A',c'),w1.heap.size,w'.heap.size),rfl,Wrs.of hO,jb9 ho (jlL _),λb hb=>.inr hb.1,rfl⟩
def XB(e f:Leg):Prop:=vv (lA e) (lA f)\/(lA e=lA f/\vv (lB e) (lB f))
instance (e f:Leg):Decidable (XB e f):=by unfold XB;exact inferInstance
theorem UW{f:Leg}(h1:lA e=lA f)(h2:lB e=lB f):e=f:=by
 rcases e with⟨a1,a2,a3,a4⟩
 rcases f with⟨b1,b2,b3,b4⟩
 simp only[lA,lB,Prod.mk.injEq] at h1 h2;rw[h1.1,h1.2,h2.1,h2.2]
theorem YP{f g:Leg}(h:XB e f)(h':XB f g):XB e g:=by
 rcases h with h|⟨h1,h2⟩
 .rcases h' with h'|⟨h3,_⟩
  .exact .inl (VQ h h')
  .exact .inl (h3▸h)
 .rcases h' with h'|⟨h3,h4⟩
  .exact .inl (h1▸h')
  .exact .inr ⟨h1.trans h3,VQ h2 h4⟩
theorem vS(e:Leg):¬XB e e:=by
 rintro(h|⟨_,h⟩)<;>exact kX _ h
theorem OE(e f:Leg):XB e f\/e=f\/XB f e:=by
 rcases yU (lA e) (lA f) with h|h|h
 .exact .inl (.inl h)
 .rcases yU (lB e) (lB f) with h'|h'|h'
  .exact .inl (.inr ⟨h,h'⟩)
  .exact .inr (.inl (UW h h'))
  .exact .inr (.inr (.inr ⟨h.symm,h'⟩))
 .exact .inr (.inr (.inl h))
theorem C1{f g:Leg}(h:¬XB e f)(h':¬XB f g):¬XB e g:=λk=>by
 rcases OE f g with c|c|c
 .exact h' c
 .exact h (c▸k)
 .exact h (YP k c)
def jgD(l:List Leg):Prop:=l.Pairwise XB
theorem GH:∀{l m:List Leg},jgD l->jgD m->(∀p,p∈l↔p∈m)->l=m
 |[],[],_,_,_=>rfl
 |[],q::m,_,_,h=>absurd ((h q).2 (by simp)) (by simp)
 |p::l,[],_,_,h=>absurd ((h p).1 (by simp)) (by simp)
 |p::l,q::m,hl,hm,h=>by
  have kl:=jmc.1 hl;have km:=jmc.1 hm
  have e:p=q:=by
   rcases jlP.1 ((h p).1 (by simp)) with e|h1
   .exact e
   .rcases jlP.1 ((h q).2 (by simp)) with e|h2
    .exact e.symm
    .exact absurd (YP (kl.1 q h2) (km.1 p h1)) (vS p)
  subst e;congr 1;refine GH kl.2 km.2 λr=>?_
  constructor
  .intro hr;rcases jlP.1 ((h r).1 (jlQ _ hr)) with e|h1
   .exact absurd (e▸kl.1 r hr) (vS _)
   .exact h1
  .intro hr;rcases jlP.1 ((h r).2 (jlQ _ hr)) with e|h1
   .exact absurd (e▸km.1 r hr) (vS _)
   .exact h1
def Q3:List Leg->List Leg
 |[]=>[]
 |[p]=>[p]
 |p::q::l=>if p=q then Q3 (q::l) else p::Q3 (q::l)
theorem xJ:∀(l:List Leg) (r:Leg),r∈Q3 l↔r∈l
 |[],_=>Iff.rfl
 |[_],_=>Iff.rfl
 |p::q::l,r=>by
  unfold Q3;split
  .rename_i e;rw[xJ (q::l) r,e];simp
  .rw[jlP,xJ (q::l) r];simp
def jbJ(l:List Leg):Prop:=l.Pairwise λp q=>¬XB q p
theorem F3:∀{l:List Leg},jbJ l->jgD (Q3 l)
 |[],_=>List.Pairwise.nil
 |[p],_=>jmK _ _
 |p::q::l,h=>by
  have h1:=jmc.1 h;have ih:=F3 (l:=q::l) h1.2
  unfold Q3;split
  .exact ih
  .rename_i hne;refine jmc.2 ⟨λr hr=>?_,ih⟩;rw[xJ] at hr;have hpq:XB p q:=by
    rcases OE p q with h2|h2|h2
    .exact h2
    .exact absurd h2 hne
    .exact absurd h2 (h1.1 q (by simp))
   rcases jlP.1 hr with e|hr
   .rw[e];exact hpq
   .have h3:=(jmc.1 h1.2).1 r hr;rcases OE q r with c|c|c
    .exact YP hpq c
    .exact c▸hpq
    .exact absurd c h3
def qW(e:Leg):Leg:=⟨e.bx,e.b_y,e.ax,e.ay⟩
def qh(e:Leg):Leg:=if vv (lB e) (lA e) then qW e else e
def sg(e:Leg):Int:=if vv (lB e) (lA e) then-1 else 1
theorem IK(e:Leg):qW (qW e)=e:=rfl
theorem jfl(h:qK e):qK (qh e):=by
 unfold qh;split
 .exact⟨h.2.2.1,h.2.2.2,h.1,h.2.1⟩
 .exact h
theorem jhP(e:Leg):¬vv (lB (qh e)) (lA (qh e)):=by
 unfold qh;split
 .rename_i h;intro k;exact kX _ (VQ h k)
 .assumption
theorem OI(hp:¬vv (lB p) (lA p))(hne:lA p≠lB p):qh e=p↔e=p\/e=qW p:=by
 unfold qh;constructor
 .split
  .intro h;exact .inr (by rw[<-h];rfl)
  .exact .inl
 .rintro(rfl|rfl)
  .rw[if_neg hp]
  .have:vv (lB (qW p)) (lA (qW p)):=by
    rcases yU (lA p) (lB p) with h|h|h
    .exact h
    .exact absurd h hne
    .exact absurd h hp
   rw[if_pos this,IK]
theorem jbf(hp:¬vv (lB p) (lA p)):sg p=1:=if_neg hp
theorem jfW(hp:¬vv (lB p) (lA p))(hne:lA p≠lB p):sg (qW p)= -1:=by
 have:vv (lB (qW p)) (lA (qW p)):=by
  rcases yU (lA p) (lB p) with h|h|h
  .exact h
  .exact absurd h hne
  .exact absurd h hp
 exact if_pos this
def sm{α:Type}(f:α->Int):List α->Int
 |[]=>0
 |x::l=>f x+sm f l
theorem Qz{α:Type}(f:α->Int):∀a b:List α,sm f (a++b)=sm f a+sm f b
 |[],b=>by simp[sm]
 |x::a,b=>by simp only[jmf,sm,Qz f a b];omega
theorem JC{α:Type}{f g:α->Int}:∀{l:List α},(∀x∈l,f x=g x)->sm f l=sm g l
 |[],_=>rfl
 |x::l,h=>by simp only[sm];rw[h x (by simp),JC λy hy=>h y (jlQ _ hy)]
theorem UF{α:Type}(f g:α->Int):∀l:List α,sm (λx=>f x+g x) l=sm f l+sm g l
 |[]=>rfl
 |x::l=>by simp only[sm,UF f g l];omega
theorem Ud{α:Type}(f g:α->Int):∀l:List α,sm (λx=>f x-g x) l=sm f l-sm g l
 |[]=>rfl
 |x::l=>by simp only[sm,Ud f g l];omega
theorem Q0{α:Type}:∀l:List α,sm (λ_=>(0:Int)) l=0
 |[]=>rfl
 |x::l=>by simp only[sm,Q0 l];rfl
theorem ji7{α:Type}{f:α->Int}:∀{l:List α},(∀x∈l,-1<=f x/\f x<=1)→-(l.length:Int)<=sm f l/\sm f l<=l.length
 |[],_=>by simp[sm]
 |x::l,h=>by
  have h1:=h x (by simp);have h2:=ji7 (l:=l) λy hy=>h y (jlQ _ hy)
  simp only[sm,jlS];omega
structure Nt where
 e:Leg
 one:Int
 two:Int
 l1:Int
 l2:Int
def qz(x:Nt):List Value:=jW x.e++[.int .i64 x.one,.int .i64 x.two,.int .i64 x.l1,.int .i64 x.l2]
def xd(e:Leg):Nt:=⟨e,0,0,0,0⟩
def nt(l:List Nt)(k:Nat):Nt:=l.getD k (xd ⟨0,0,0,0⟩)
theorem ZO{l:List Nt}(h:k<l.length):l[k]=nt l k:=by simp[nt,List.getD,List.getElem?_eq_getElem h]
def wY(s:Bool)(n:Int)(x:Nt):Nt:=if s=true then {x with two:=x.two+n} else {x with one:=x.one+n}
theorem GQ(s:Bool)(n:Int)(x:Nt):(wY s n x).e=x.e:=by unfold wY;split<;>rfl
def WW(s:Bool)(e:Leg):List Nt->List Nt
 |[]=>[wY s (sg e) (xd (qh e))]
 |x::l=>if XB x.e (qh e) then x::WW s e l else if x.e=qh e then wY s (sg e) x::l else wY s (sg e) (xd (qh e))::x::l
def Ly(l:List Nt)(k:Nat)(e:Leg):List Nt:=l.take k++xd e::l.drop k
theorem Ts{s:Bool}{e:Leg}:∀{l:List Nt} {k:Nat},k<=l.length->(∀j,j<k->XB (nt l j).e (qh e))->(k<l.length->¬XB (nt l k).e (qh e)/\(nt l k).e≠qh e)->
  WW s e l=(Ly l k (qh e)).set k (wY s (sg e) (nt (Ly l k (qh e)) k))
 |[],k,hk,_,_=>by
  have:k=0:=by simpa using hk
  subst this;rfl
 |x::l,0,_,_,h=>by
  have:¬XB x.e (qh e)/\x.e≠qh e:=h (by simp);rw[WW,if_neg this.1,if_neg this.2];rfl
 |x::l,k+1,hk,h1,h2=>by
  have h0:XB x.e (qh e):=h1 0 Om;rw[WW,if_pos h0,Ts (l:=l) (k:=k) (by simpa using hk) (λj hj=>h1 (j+1) Om) (λhk'=>h2 (by simpa using hk'))];rfl
theorem Tt{s:Bool}{e:Leg}:∀{l:List Nt} {k:Nat},k<l.length->(∀j,j<k->XB (nt l j).e (qh e))->(nt l k).e=qh e->
  WW s e l=l.set k (wY s (sg e) (nt l k))
 |[],k,hk,_,_=>absurd hk (by simp)
 |x::l,0,_,_,h=>by
  have h':x.e=qh e:=h;rw[WW,if_neg (by rw[h'];exact vS _),if_pos h'];rfl
 |x::l,k+1,hk,h1,h2=>by
  have h0:XB x.e (qh e):=h1 0 Om;rw[WW,if_pos h0,Tt (l:=l) (k:=k) (by simpa using hk) (λj hj=>h1 (j+1) Om) h2];rfl
theorem O8{s:Bool}{e q:Leg}:∀{l:List Nt},(∃x∈WW s e l,x.e=q)↔(∃x∈l,x.e=q)\/q=qh e
 |[]=>by simp[WW,GQ,xd,eq_comm]
 |x::l=>by
  have ih:=O8 (s:=s) (e:=e) (q:=q) (l:=l);unfold WW;split
  .simp only[jlP,exists_eq_or_imp,ih,or_assoc]
  .split
   .rename_i h;simp only[jlP,exists_eq_or_imp,GQ];constructor
    .exact .inl
    .rintro(h1|h1)
     .exact h1
     .exact .inl (h1▸h)
   .simp only[jlP,exists_eq_or_imp,GQ];constructor
    .rintro(h1|h1)
     .exact .inr h1.symm
     .exact .inl h1
    .rintro(h1|h1)
     .exact .inr h1
     .exact .inl h1.symm
def GE(l:List Nt):Prop:=l.Pairwise λx y=>XB x.e y.e
theorem Tq{s:Bool}{e:Leg}:∀{l:List Nt},GE l->GE (WW s e l)
 |[],_=>jmK _ _
 |x::l,h=>by
  have h1:=jmc.1 h;unfold WW;split
  .rename_i hx;refine jmc.2 ⟨λy hy=>?_,Tq h1.2⟩;rcases(O8 (q:=y.e)).1 ⟨y,hy,rfl⟩ with⟨z,hz,e1⟩|e1
   .rw[<-e1];exact h1.1 z hz
   .rw[e1];exact hx
  .rename_i hx;split
   .refine jmc.2 ⟨λy hy=>?_,h1.2⟩;rw[GQ];exact h1.1 y hy
   .rename_i hne;have hlt:XB (qh e) x.e:=by
     rcases OE (qh e) x.e with c|c|c
     .exact c
     .exact absurd c.symm hne
     .exact absurd c hx
    refine jmc.2 ⟨λy hy=>?_,h⟩;rw[GQ];rcases jlP.1 hy with c|hy
    .rw[c];exact hlt
    .exact YP hlt (h1.1 y hy)
def wi(s:Bool)(x:Nt):Int:=if s=true then x.two else x.one
def wS(s:Bool)(F:Leg->Int)(l:List Nt):Int:=sm (λx=>wi s x*F x.e) l
theorem jdn{s t:Bool}{e:Leg}(F:Leg->Int):∀(l:List Nt),wS t F (WW s e l)=wS t F l+(if s=t then sg e*F (qh e) else 0)
 |[]=>by
  cases s<;>cases t<;>simp[wS,WW,sm,wi,wY,xd]
 |x::l=>by
  have ih:=jdn (s:=s) (t:=t) (e:=e) F l;unfold wS at ih⊢;unfold WW;split
  .simp only[sm,ih];omega
  .split
   .rename_i h;cases s<;>cases t<;>simp[sm,wi,wY,h]<;>grind
   .cases s<;>cases t<;>simp[sm,wi,wY,xd]<;>grind
def Qf(s:Bool)(es:List Leg)(l:List Nt):List Nt:=es.foldl (λl e=>WW s e l) l
theorem Wl{s:Bool}:∀{es:List Leg} {l:List Nt},GE l->GE (Qf s es l)
 |[],_,h=>h
 |e::es,l,h=>Wl (es:=es) (Tq (e:=e) h)
theorem Wm{s:Bool}{q:Leg}:∀{es:List Leg} {l:List Nt},(∃x∈Qf s es l,x.e=q)↔(∃x∈l,x.e=q)\/∃e∈es,q=qh e
 |[],l=>by simp[Qf]
 |e::es,l=>by
  have:=Wm (s:=s) (q:=q) (es:=es) (l:=WW s e l);unfold Qf at this⊢;rw[jmI,this,O8];simp only[jlP,exists_eq_or_imp,or_assoc]
theorem ZL{s t:Bool}(F:Leg->Int):∀(es:List Leg) (l:List Nt),wS t F (Qf s es l)=wS t F l+(if s=t then sm (λe=>sg e*F (qh e)) es else 0)
 |[],l=>by simp[Qf,sm]
 |e::es,l=>by
  have:=ZL (s:=s) (t:=t) F es (WW s e l);unfold Qf at this⊢;rw[jmI,this,jdn];split<;>(try simp only[sm])<;>omega
theorem Tr{s:Bool}{e:Leg}:∀(l:List Nt),(WW s e l).length<=l.length+1
 |[]=>by simp[WW]
 |x::l=>by
  have:=Tr (s:=s) (e:=e) l;unfold WW;split
  .simp only[jlS];omega
  .split<;>simp only[jlS]<;>omega
def Xj(x:Int):Int:=if x<0 then-x else x
theorem RG(x:Int):0<=Xj x:=by unfold Xj;split<;>omega
theorem jag(x:Int): -Xj x<=x/\x<=Xj x:=by unfold Xj;split<;>omega
def aS(s:Bool)(l:List Nt):Int:=sm (λx=>Xj (wi s x)) l
theorem PI(e:Leg):sg e=1\/sg e= -1:=by unfold sg;split<;>simp
theorem jdm{s t:Bool}{e:Leg}:∀(l:List Nt),aS t (WW s e l)<=aS t l+(if s=t then 1 else 0)
 |[]=>by
  have:=PI e;cases s<;>cases t<;>simp[aS,WW,sm,wi,wY,xd,Xj]<;>omega
 |x::l=>by
  have ih:=jdm (s:=s) (t:=t) (e:=e) l;have:=PI e
  unfold aS at ih⊢;unfold WW;split
  .simp only[sm];omega
  .split
   .cases s<;>cases t<;>simp[sm,wi,wY,Xj]<;>(repeat' split)<;>omega
   .cases s<;>cases t<;>simp[sm,wi,wY,xd,Xj]<;>(repeat' split)<;>omega
theorem ZK{s t:Bool}:∀(es:List Leg) (l:List Nt),aS t (Qf s es l)<=aS t l+(if s=t then(es.length:Int) else 0)
 |[],l=>by simp[Qf]
 |e::es,l=>by
  have h1:=ZK (s:=s) (t:=t) es (WW s e l);have h2:=jdm (s:=s) (t:=t) (e:=e) l
  unfold Qf at h1⊢;rw[jmI];split at h1<;>split at h2<;>simp only[jlS]<;>(try split)<;>simp_all<;>omega
structure Ne where
 e:Leg
 net:Int
 left:Int
 right:Int
def kS(p:Leg):Int:=p.ax+p.bx
def QY(p:Leg):Int:=p.ay+p.b_y
def qd(es:List Leg)(p:Leg):Int:=sm (λe=>if qh e=p then sg e else 0) es
def Qw(es:List Leg)(p:Leg):Int:=sm (λe=>if qh e=p then 0 else kk (ko true e) (kS p) (QY p)) es
def Q5(es:List Leg)(p:Leg):Ne:=if p.ay=p.b_y then⟨p,qd es p,Qw es p,Qw es p-qd es p⟩ else⟨p,qd es p,Qw es p+qd es p,Qw es p⟩
def Xp(e:Leg):Leg:=⟨-e.ay,e.ax,-e.b_y,e.bx⟩
def Ff(p q:Leg):Int:=if p.ay=p.b_y then kk (Xp (ko true q)) (-(QY p)) (kS p) else kk (ko true q) (kS p) (QY p)
def QK(s:Bool)(l:List Nt)(k:Nat):Nat->Int
 |0=>0
 |i+1=>QK s l k i+(if i=k then 0 else wi s (nt l i)*Ff (nt l k).e (nt l i).e)
theorem jgw(l:Leg)(x y:Int): -1<=kk l x y/\kk l x y<=1:=by unfold kk;split<;>(try split)<;>omega
theorem jgT(p q:Leg): -1<=Ff p q/\Ff p q<=1:=by unfold Ff;split<;>exact jgw _ _ _
theorem je9{c g:Int}(h: -1<=g/\g<=1): -Xj c<=c*g/\c*g<=Xj c:=by
 have h1:=jag c;have:g= -1\/g=0\/g=1:=by omega
 rcases this with rfl|rfl|rfl<;>simp<;>omega
theorem OX(f:α->Int){l:List α}(h:k<l.length):sm f (l.take (k+1))=sm f (l.take k)+f l[k]:=by
 rw[jlX h,Qz];simp[sm]
theorem jf1{α:Type}{f:α->Int}(h:∀x,0<=f x):∀l:List α,0<=sm f l
 |[]=>jna _
 |x::l=>by
  have:=h x;have:=jf1 h l
  simp only[sm];omega
theorem En{f:α->Int}(h:∀x,0<=f x)(l:List α)(k:Nat):sm f (l.take k)<=sm f l:=by
 have e:sm f l=sm f (l.take k)+sm f (l.drop k):=by rw[<-Qz,jl1]
 have:=jf1 h (l.drop k);omega
theorem FW{s:Bool}{l:List Nt}{k:Nat}:∀i,i<=l.length→-sm (λx=>Xj (wi s x)) (l.take i)<=QK s l k i/\QK s l k i<=sm (λx=>Xj (wi s x)) (l.take i)
 |0,_=>by simp[QK,sm]
 |i+1,h=>by
  have h1:=FW (s:=s) (l:=l) (k:=k) i Om;have h2:=je9 (c:=wi s (nt l i)) (jgT (nt l k).e (nt l i).e)
  have h3:=RG (wi s (nt l i));rw[OX _ Om,ZO Om,QK];split<;>omega
theorem YD{l:List Nt}{i:Nat}(h:i<=l.length): -aS s l<=QK s l k i/\QK s l k i<=aS s l:=by
 have h1:=FW (s:=s) (l:=l) (k:=k) i h;have h2:=En (f:=λx=>Xj (wi s x)) (λx=>RG _) l i
 unfold aS;omega
theorem LF{l:List Nt}(h:k<l.length):nt l k∈l:=by rw[<-ZO h];exact jlY h
theorem jds{l:List Nt}(h:GE l){i:Nat}(hi:i<l.length)(hk:k<l.length)(he:(nt l i).e=(nt l k).e):i=k:=by
 rcases Nat.lt_trichotomy i k with c|c|c
 .have:=jmQ.1 h i k hi hk c;rw[ZO hi,ZO hk,he] at this;exact absurd this (vS _)
 .exact c
 .have:=jmQ.1 h k i hk hi c;rw[ZO hi,ZO hk,he] at this;exact absurd this (vS _)
theorem Ty{s:Bool}{l:List Nt}{k:Nat}(ha:GE l)(hk:k<l.length):∀i,i<=l.length->QK s l k i=sm (λx=>wi s x*(if x.e=(nt l k).e then 0 else Ff (nt l k).e x.e)) (l.take i)
 |0,_=>rfl
 |i+1,h=>by
  rw[OX _ Om,ZO Om,QK,Ty ha hk i Om];congr 1;by_cases e:i=k
  .subst e;simp
  .rw[if_neg e,if_neg λhe=>e (jds ha Om hk he)]
theorem jbS{l:List Nt}(ha:GE l)(hk:k<l.length):QK s l k l.length=wS s (λq=>if q=(nt l k).e then 0 else Ff (nt l k).e q) l:=by
 rw[Ty ha hk _ (jlL _),jms];rfl
theorem jby{s:Bool}{p:Leg}:∀{l:List Nt},(∀x∈l,x.e≠p)->wS s (λq=>if q=p then 1 else 0) l=0
 |[],_=>rfl
 |x::l,h=>by
  have:=jby (s:=s) (l:=l) λy hy=>h y (jlQ _ hy)
  unfold wS at*;simp only[sm,this];rw[if_neg (h x (by simp))];simp
theorem jjb{s:Bool}:∀{l:List Nt} {x:Nt},GE l->x∈l->wS s (λq=>if q=x.e then 1 else 0) l=wi s x
 |y::l,x,h,hx=>by
  have h1:=jmc.1 h;rcases jlP.1 hx with e|hx
  .subst e;have:=jby (s:=s) (p:=x.e) (l:=l) λz hz e=>vS _ (e▸h1.1 z hz)
   unfold wS at*;simp only[sm,this,if_true];omega
  .have:=jjb (s:=s) h1.2 hx;have hne:y.e≠x.e:=λe=>vS _ (e▸h1.1 x hx)
   unfold wS at*;simp only[sm,this,if_neg hne];omega
theorem xF(l:Leg)(x y:Int):kk l x y=if(l.ay<=y/\y<l.b_y)/\0<kU l.ax l.ay l.bx l.b_y x y then 1 else if(l.b_y<=y/\y<l.ay)/\kU l.ax l.ay l.bx l.b_y x y<0 then-1 else 0:=by
 unfold kk wUp Zz;simp only[jlK,decide_eq_true_eq]
theorem Xf(e:Leg)(x y:Int):kk (qW e) x y= -kk e x y:=by
 have ht:kU (qW e).ax (qW e).ay (qW e).bx (qW e).b_y x y= -kU e.ax e.ay e.bx e.b_y x y:=by simp only[qW,kU];grind
 rw[xF,xF,ht];generalize kU e.ax e.ay e.bx e.b_y x y=t;simp only[qW]
 repeat' split
 all_goals omega
theorem jha(e:Leg)(x y:Int):sg e*kk (ko true (qh e)) x y=kk (ko true e) x y:=by
 unfold qh sg;split
 .rw[show ko true (qW e)=qW (ko true e) from rfl,Xf];omega
 .omega
theorem jim(e:Leg)(x y:Int):sg e*kk (Xp (ko true (qh e))) x y=kk (Xp (ko true e)) x y:=by
 unfold qh sg;split
 .rw[show Xp (ko true (qW e))=qW (Xp (ko true e)) from rfl,Xf];omega
 .omega
def qu(x y mx my:Int):Int:=if mx<x/\y<=my then 1 else 0
theorem x8{a b p:Int}(h:p=a*b):(0<a/\0<b/\0<p)\/(0<a/\b<0/\p<0)\/(a<0/\0<b/\p<0)\/(a<0/\b<0/\0<p)\/(a=0/\p=0)\/(b=0/\p=0):=by
 subst h;rcases jmv a 0 with ha|ha|ha
 .rcases jmv b 0 with hb|hb|hb
  .exact .inr (.inr (.inr (.inl ⟨ha,hb,jnJ ha hb⟩)))
  .subst hb;simp
  .exact .inr (.inr (.inl ⟨ha,hb,jmD ha hb⟩))
 .subst ha;simp
 .rcases jmv b 0 with hb|hb|hb
  .exact .inr (.inl ⟨ha,hb,jnc ha hb⟩)
  .subst hb;simp
  .exact .inl ⟨ha,hb,jmj ha hb⟩
theorem jiE{a1 a2 b1 b2 t:Int}(ht:t=a1*b2-a2*b1)(hno:¬(t=0/\(min a1 b1<=0/\0<=max a1 b1)/\min a2 b2<=0/\0<=max a2 b2)):
  (if(a2<=0/\0<b2)/\0<t then(1:Int) else if(b2<=0/\0<a2)/\t<0 then-1 else 0)-(if(a1<=0/\0<b1)/\0<t then(1:Int) else if(b1<=0/\0<a1)/\t<0 then-1 else 0)
   =(if 0<a1/\a2<=0 then 1 else 0)-(if 0<b1/\b2<=0 then 1 else 0):=by
 have h1:=x8 (a:=a1) (b:=b2) rfl;have h2:=x8 (a:=a2) (b:=b1) rfl
 generalize a1*b2=p at*;generalize a2*b1=q at*;subst ht;rcases h1 with h1|h1|h1|h1|h1|h1<;>rcases h2 with h2|h2|h2|h2|h2|h2<;>(repeat' split)<;>omega
theorem jgd{mx my:Int}(hno:¬(kU e.ax e.ay e.bx e.b_y mx my=0/\(min e.ax e.bx<=mx/\mx<=max e.ax e.bx)/\min e.ay e.b_y<=my/\my<=max e.ay e.b_y)):
  kk e mx my-kk (Xp e) (-my) mx=qu e.ax e.ay mx my-qu e.bx e.b_y mx my:=by
 have hr:kU (Xp e).ax (Xp e).ay (Xp e).bx (Xp e).b_y (-my) mx=kU e.ax e.ay e.bx e.b_y mx my:=by simp only[Xp,kU];grind
 have ht:kU e.ax e.ay e.bx e.b_y mx my=(e.ax-mx)*(e.b_y-my)-(e.ay-my)*(e.bx-mx):=by simp only[kU];grind
 have h:=jiE ht (λk=>hno ⟨k.1,by omega,by omega⟩);rw[xF,xF,hr];unfold qu;generalize kU e.ax e.ay e.bx e.b_y mx my=t at*;simp only[Xp];have e1:(e.ay<=my/\my<e.b_y)/\0<t↔(e.ay-my<=0/\0<e.b_y-my)/\0<t:=by omega
 have e2:(e.b_y<=my/\my<e.ay)/\t<0↔(e.b_y-my<=0/\0<e.ay-my)/\t<0:=by omega
 have e3:(e.ax<=mx/\mx<e.bx)/\0<t↔(e.ax-mx<=0/\0<e.bx-mx)/\0<t:=by omega
 have e4:(e.bx<=mx/\mx<e.ax)/\t<0↔(e.bx-mx<=0/\0<e.ax-mx)/\t<0:=by omega
 have e5:mx<e.ax/\e.ay<=my↔0<e.ax-mx/\e.ay-my<=0:=by omega
 have e6:mx<e.bx/\e.b_y<=my↔0<e.bx-mx/\e.b_y-my<=0:=by omega
 simp only[e1,e2,e3,e4,e5,e6];exact h
end Go.Proofs.YtjbahemkhphndaaGreat
