import Derived.Test.YtjbahemkhphndaaGreatNNetT
set_option linter.unusedVariables false
set_option linter.unusedSimpArgs false
namespace Go.Proofs.YtjbahemkhphndaaGreat
open Go Go.RowKit
variable{B:List Leg}{a at_:Nat}{ps:List Pn}{u u0:List Bool}
theorem Xd(v p q:Pn):tn v q p= -tn v p q:=by simp only[tn,kU];grind
theorem DC{v f p q:Pn}(h:Ue v f p q=true):Ue v f q p=false:=by
 rw[jmR];intro h';rw[zU,zf] at h h';have:=Xd v p q
 omega
theorem Tw{v p q r:Pn}(hp:p≠v)(hq:q≠v)(hr:r≠v)(h1:0<yb v p q)(h2:0<yb v q r):0<yb v p r:=by
 obtain⟨P,uP,kP⟩:=Yx hp;obtain⟨Q,uQ,kQ⟩:=Yx hq;obtain⟨R,uR,kR⟩:=Yx hr;rw[zf] at*;have d1:=W1 kP kQ
 have d2:=W1 kQ kR;have d3:=W1 kP kR
 have b1:=yO v p;have b2:=yO v q
 have b3:=yO v r;have T:=(jgp uP uQ uR).t6
 by_cases e:U4 v p=U4 v q/\U4 v q=U4 v r
 .have t:=T Om Om;have t2:=t.2 Om
  clear T t;exact .inr ⟨by omega,by omega⟩
 .clear T;exact .inl Om
theorem IU{v f p q r:Pn}(hp:p≠v)(hq:q≠v)(hr:r≠v)(h1:Ue v f p q=true)(h2:Ue v f q r=true):Ue v f p r=true:=by
 have ht:=Tw hp hq hr;rw[zU] at*;rcases h1 with h1|⟨h1,h1'⟩<;>rcases h2 with h2|⟨h2,h2'⟩
 .omega
 .exact .inl ⟨h1.1,λk=>h1.2 (h2.2 k)⟩
 .exact .inl ⟨h1.2 h2.1,h2.2⟩
 .exact .inr ⟨h1.trans h2,ht h1' h2'⟩
theorem L9{v f p q:Pn}(hp:p≠v)(hq:q≠v)(h:¬Q9 v p q):Ue v f p q=true\/Ue v f q p=true:=by
 obtain⟨P,uP,kP⟩:=Yx hp;obtain⟨Q,uQ,kQ⟩:=Yx hq;have n:=xb uP uQ kP kQ h
 have d:=W1 kP kQ;rw[zU,zU];by_cases a:yb v p f<0<;>by_cases b:yb v q f<0
 .simp only[a,b,not_true,and_false,false_or,true_and];rw[zf,zf,Xd v p q];have b1:=yO v p
  have b2:=yO v q;omega
 .exact .inl (.inl ⟨a,b⟩)
 .exact .inr (.inl ⟨b,a⟩)
 .simp only[a,b,false_and,false_or,true_and];rw[zf,zf,Xd v p q];have b1:=yO v p
  have b2:=yO v q;omega
def MN(S:Nat->Bool)(lt:Nat->Nat->Bool)(b:Option Nat)(k:Nat):Option Nat:=match b with
 |none=>if S k=true then some k else none
 |some m=>if(S k&&lt k m)=true then some k else some m
def VW(S:Nat->Bool)(lt:Nat->Nat->Bool)(n:Nat):Option Nat:=(List.range n).foldl (MN S lt) none
theorem VS(S:Nat->Bool)(lt:Nat->Nat->Bool)(n:Nat):VW S lt (n+1)=MN S lt (VW S lt n) n:=by
 unfold VW;rw[jm3,jnI];rfl
theorem Z3(p:Nat->Bool)(S:Nat->Bool)(lt:Nat->Nat->Bool):∀(l:List Nat) (b:Option Nat),(l.filter p).foldl (MN S lt) b=l.foldl (MN (λk=>p k&&S k) lt) b
 |[],_=>rfl
 |k::l,b=>by
  rw[List.filter_cons];by_cases h:p k=true
  .rw[if_pos h,jmI,jmI,Z3 p S lt l];congr 1;cases b<;>simp[MN,h]
  .rw[if_neg h,jmI,Z3 p S lt l];congr 1;cases b<;>simp[MN,h]
theorem yx{S:Nat->Bool}{lt:Nat->Nat->Bool}:∀{n m:Nat},VW S lt n=some m->m<n/\S m=true
 |0,m,h=>by cases h
 |n+1,m,h=>by
  rw[VS] at h;cases hb:VW S lt n with
  |none=>
   rw[hb] at h;unfold MN at h;simp only at h;split at h
   .rename_i hs;injection h with h
    subst h;exact⟨by omega,hs⟩
   .cases h
  |some b=>
   have ih:=yx hb;rw[hb] at h;unfold MN at h;simp only at h;split at h
   .rename_i hs;injection h with h
    subst h;simp only[jlK] at hs;exact⟨by omega,hs.1⟩
   .injection h with h
    subst h;exact⟨by omega,ih.2⟩
theorem Dx{S:Nat->Bool}{lt lt':Nat->Nat->Bool}:∀{n:Nat},(∀j k,j<n->k<n->S j=true->S k=true->j≠k->lt j k=lt' j k)->VW S lt n=VW S lt' n
 |0,_=>rfl
 |n+1,h=>by
  rw[VS,VS,<-Dx (n:=n) λj k hj hk=>h j k Om Om];cases hb:VW S lt n with
  |none=>rfl
  |some b=>
   have:=yx hb;unfold MN;simp only;by_cases hs:S n=true
   .rw[h n b Om Om hs this.2 Om]
   .simp[hs]
theorem MI{S S':Nat->Bool}{lt:Nat->Nat->Bool}:∀{n:Nat},(∀j,j<n->S j=S' j)->VW S lt n=VW S' lt n
 |0,_=>rfl
 |n+1,h=>by
  rw[VS,VS,MI (n:=n) λj hj=>h j Om];unfold MN;rw[h n Om]
structure IsMin (S:Nat->Bool) (lt:Nat->Nat->Bool) (n m:Nat):Prop where
 le:m<n
 mem:S m=true
 min:∀j,j<n->S j=true->j≠m->lt m j=true
structure Ord (S:Nat->Bool) (lt:Nat->Nat->Bool) (n:Nat):Prop where
 asym:∀j k,j<n->k<n->S j=true->S k=true->lt j k=true->lt k j=false
 trans:∀i j k,i<n->j<n->k<n->S i=true->S j=true->S k=true->lt i j=true->lt j k=true->lt i k=true
 total:∀j k,j<n->k<n->S j=true->S k=true->j≠k->lt j k=true\/lt k j=true
theorem HL{S:Nat->Bool}{lt:Nat->Nat->Bool}{N:Nat}(h:Ord S lt N):∀{n:Nat},n<=N->(VW S lt n=none->∀j,j<n->S j=false)/\∀m,VW S lt n=some m->IsMin S lt n m
 |0,_=>⟨λ_ j hj=>absurd hj Om,λm h=>by cases h⟩
 |n+1,hn=>by
  have ih:=HL h (n:=n) Om;rw[VS];cases hb:VW S lt n with
  |none=>
   have hno:=ih.1 hb;unfold MN;simp only;by_cases hs:S n=true
   .rw[if_pos hs];refine⟨λe=>(by cases e),λm e=>?_⟩;injection e with e
    subst e;refine⟨by omega,hs,λj hj h1 h2=>?_⟩;rw[hno j Om] at h1;cases h1
   .rw[if_neg hs];refine⟨λ_ j hj=>?_,λm e=>(by cases e)⟩;by_cases e:j=n
    .subst e;simpa using hs
    .exact hno j Om
  |some b=>
   have hm:=ih.2 b hb;unfold MN;simp only;by_cases hs:(S n&&lt n b)=true
   .rw[if_pos hs];simp only[jlK] at hs;refine⟨λe=>(by cases e),λm e=>?_⟩;injection e with e
    subst e;refine⟨by omega,hs.1,λj hj h1 h2=>?_⟩;by_cases e:j=b
    .subst e;exact hs.2
    .exact h.trans n b j Om (by have:=hm.le;omega) Om hs.1 hm.mem h1 hs.2 (hm.min j Om h1 e)
   .rw[if_neg hs];refine⟨λe=>(by cases e),λm e=>?_⟩;injection e with e
    subst e;refine⟨by have:=hm.le;omega,hm.mem,λj hj h1 h2=>?_⟩;by_cases e:j=n
    .subst e;have hl:lt j b=false:=by
      rw[jlK] at hs;rw[jmR];exact λk=>hs ⟨h1,k⟩
     rcases h.total j b Om (by have:=hm.le;omega) h1 hm.mem h2 with k|k
     .rw[hl] at k;cases k
     .exact k
    .exact hm.min j Om h1 h2
structure TrOk (B:List Leg):Prop where
 ne:∀j,j<B.length->lA (lg B j)≠lB (lg B j)
 apart:∀i j,i<B.length->j<B.length->i≠j->lA (lg B i)=lA (lg B j)->¬Q9 (lA (lg B i)) (lB (lg B i)) (lB (lg B j))
 back:∀i j,i<B.length->j<B.length->lA (lg B j)=lB (lg B i)->¬Q9 (lB (lg B i)) (lB (lg B j)) (lA (lg B i))
def WR(u:List Bool)(k:Nat):Bool:=u.getD k false
def vF(B:List Leg)(u:List Bool)(v:Pn)(k:Nat):Bool:= !(WR u k) &&decide (lA (lg B k)=v)
def ltS(B:List Leg)(v f:Pn)(j k:Nat):Bool:=Ue v f (lB (lg B j)) (lB (lg B k))
def Zk(B:List Leg)(u:List Bool)(at_:Nat):Option Nat:=VW (vF B u (lB (lg B at_))) (ltS B (lB (lg B at_)) (lA (lg B at_))) B.length
def yf(B:List Leg)(u:List Bool)(at_ first:Nat):Bool:=match Zk B u at_ with
 |none=>true
 |some m=>ltS B (lB (lg B at_)) (lA (lg B at_)) first m
def Uv(B:List Leg)(u:List Bool)(first at_:Nat):Option Nat:=if(decide (lB (lg B at_)=lA (lg B first)) &&yf B u at_ first)=true then none else Zk B u at_
def Np(B:List Leg)(v:Pn):List Nat:=(List.range B.length).filter λk=>decide (lA (lg B k)=v)
def Vd(u:List Bool)(first k:Nat):Bool:= !(WR u k)||decide (k=first)
def ltI(B:List Leg)(v f:Pn)(j k:Nat):Bool:=cwF v f (lB (lg B j)) (lB (lg B k))
def Zg(B:List Leg)(u:List Bool)(first at_:Nat):Option Nat:=(Np B (lB (lg B at_))).foldl (MN (Vd u first) (ltI B (lB (lg B at_)) (lA (lg B at_)))) none
def DL(B:List Leg)(u:List Bool)(first at_:Nat):Option Nat:=match Zg B u first at_ with
 |none=>none
 |some m=>if m=first then none else some m
theorem Ec(h:TrOk B)(ha:at_<B.length){S:Nat->Bool}(hS:∀k,S k=true->lA (lg B k)=lB (lg B at_)):Ord S (ltS B (lB (lg B at_)) (lA (lg B at_))) B.length:=by
 have hne:∀k,k<B.length->S k=true->lB (lg B k)≠lB (lg B at_):=λk hk hs e=>h.ne k hk (by rw[hS k hs,e])
 refine⟨λj k _ _ _ _ h1=>DC h1,λi j k hi hj hk s1 s2 s3 h1 h2=>IU (hne i hi s1) (hne j hj s2) (hne k hk s3) h1 h2,λj k hj hk s1 s2 hn=>?_⟩;refine L9 (hne j hj s1) (hne k hk s2) ?_;have:=h.apart j k hj hk hn (by rw[hS j s1,hS k s2])
 rw[hS j s1] at this;exact this
theorem jdb(h:TrOk B){first:Nat}(hf:first<B.length)(ha:at_<B.length)(hu:WR u first=true):DL B u first at_=Uv B u first at_:=by
 have hb:Zg B u first at_=VW (λk=>decide (lA (lg B k)=lB (lg B at_)) &&Vd u first k) (ltS B (lB (lg B at_)) (lA (lg B at_))) B.length:=by
  unfold Zg Np;rw[Z3];refine Dx λj k hj hk s1 s2 hn=>?_
  simp only[jlK,decide_eq_true_eq] at s1 s2;have n1:lB (lg B j)≠lB (lg B at_):=λe=>h.ne j hj (by rw[s1.1,e])
  have n2:lB (lg B k)≠lB (lg B at_):=λe=>h.ne k hk (by rw[s2.1,e])
  have ap:=h.apart j k hj hk hn (by rw[s1.1,s2.1]);rw[s1.1] at ap;exact jjw (h.ne at_ ha) n1 n2 (h.back at_ j ha hj s1.1) (h.back at_ k ha hk s2.1) ap
 have oD:=Ec h ha (S:=λk=>decide (lA (lg B k)=lB (lg B at_)) &&Vd u first k) (λk hk=>by simp only[jlK,decide_eq_true_eq] at hk;exact hk.1)
 have oC:=Ec h ha (S:=vF B u (lB (lg B at_))) (λk hk=>by simp only[vF,jlK,decide_eq_true_eq] at hk;exact hk.2);have sD:=HL oD (jlL _)
 have sC:=HL oC (jlL _);have cd:∀k,vF B u (lB (lg B at_)) k=true->(decide (lA (lg B k)=lB (lg B at_)) &&Vd u first k)=true:=λk hk=>by
  simp only[vF,Vd,jlK,jml,decide_eq_true_eq] at hk⊢;exact⟨hk.2,.inl hk.1⟩
 have dc:∀k,k≠first->(decide (lA (lg B k)=lB (lg B at_)) &&Vd u first k)=true->vF B u (lB (lg B at_)) k=true:=λk hn hk=>by
  simp only[vF,Vd,jlK,jml,decide_eq_true_eq] at hk⊢;exact⟨hk.2.resolve_right hn,hk.1⟩
 have nf:vF B u (lB (lg B at_)) first=false:=by simp[vF,hu]
 by_cases hv:lB (lg B at_)=lA (lg B first)
 ·
  have hD:(decide (lA (lg B first)=lB (lg B at_)) &&Vd u first first)=true:=by simp[Vd,hv]
  unfold DL Uv yf;rw[hb];rw[decide_eq_true hv,jlZ];unfold Zk;cases eD:VW (λk=>decide (lA (lg B k)=lB (lg B at_)) &&Vd u first k) (ltS B (lB (lg B at_)) (lA (lg B at_))) B.length with
  |none=>
   have this:(decide (lA (lg B first)=lB (lg B at_)) &&Vd u first first)=false:=sD.1 eD first hf
   rw[hD] at this;cases this
  |some m=>
   have mD:=sD.2 m eD;simp only;cases eC:VW (vF B u (lB (lg B at_))) (ltS B (lB (lg B at_)) (lA (lg B at_))) B.length with
   |none=>
    have hno:=sC.1 eC;simp only[if_true];by_cases hm:m=first
    .rw[if_pos hm]
    .have:=hno m mD.le;rw[dc m hm mD.mem] at this;cases this
   |some m'=>
    have mC:=sC.2 m' eC;simp only;have hm':m'≠first:=λe=>by have:=mC.mem;rw[e,nf] at this;cases this
    by_cases hm:m=first
    .rw[if_pos hm];have:=mD.min m' mC.le (cd m' mC.mem) (by rw[hm];exact hm')
     rw[hm] at this;rw[if_pos this]
    .rw[if_neg hm];have e1:m=m':=Decidable.byContradiction λk=>by
      have a1:=mD.min m' mC.le (cd m' mC.mem) (Ne.symm k);have a2:=mC.min m mD.le (dc m hm mD.mem) k
      have:=oC.asym m m' mD.le mC.le (dc m hm mD.mem) mC.mem a1;rw[a2] at this;cases this
     have a3:=mD.min first hf hD (Ne.symm hm)
     have a4:=oD.asym m first mD.le hf mD.mem hD a3
     subst e1;show some m=if ltS B (lB (lg B at_)) (lA (lg B at_)) first m=true then none else some m
     rw[a4];rfl
 .unfold DL Uv;rw[hb,decide_eq_false hv,jmg,if_neg (by simp)];unfold Zk;have e1:VW (λk=>decide (lA (lg B k)=lB (lg B at_)) &&Vd u first k) (ltS B (lB (lg B at_)) (lA (lg B at_))) B.length=VW (vF B u (lB (lg B at_))) (ltS B (lB (lg B at_)) (lA (lg B at_))) B.length:=by
   refine MI λk hk=>?_
   by_cases e:k=first
   .subst e;rw[nf,decide_eq_false (λk=>hv k.symm),jmg]
   .unfold vF Vd;rw[decide_eq_false e,Bool.or_false,Bool.and_comm]
  rw[e1];cases eC:VW (vF B u (lB (lg B at_))) (ltS B (lB (lg B at_)) (lA (lg B at_))) B.length with
  |none=>rfl
  |some m=>
   have mC:=yx eC;have:m≠first:=λe=>by have:=mC.2;rw[e,nf] at this;cases this
   simp only;rw[if_neg this]
def WS(u:List Bool):Nat:=(u.filter (λb=> !b)).length
def VV(B:List Leg)(first:Nat):Nat->List Bool->Nat->List Pn->List Bool×List Pn
 |0,u,_,ps=>(u,ps)
 |f+1,u,a,ps=>match Uv B (u.set a true) first a with
  |none=>(u.set a true,ps++[lA (lg B a)])
  |some m=>VV B first f (u.set a true) m (ps++[lA (lg B a)])
def kN(B:List Leg):Nat->List Bool×List (List Pn)
 |0=>(List.replicate B.length false,[])
 |k+1=>if WR (kN B k).1 k=true then kN B k else((VV B k (WS (kN B k).1) (kN B k).1 k []).1,(kN B k).2++[(VV B k (WS (kN B k).1) (kN B k).1 k []).2])
def Ki(B:List Leg):List (List Pn):=(kN B B.length).2
theorem Xe{k:Nat}(ha:a<u.length):WR (u.set a true) k=(decide (k=a)||WR u k):=by
 unfold WR;by_cases e:k=a
 .subst e;simp[List.getD,ha]
 .simp[List.getD,List.getElem?_set,Ne.symm e,e]
theorem zu:∀{u:List Bool} {a:Nat},a<u.length->WR u a=false->WS (u.set a true)+1=WS u
 |[],a,h,_=>absurd h (by simp)
 |b::u,0,_,hb=>by
  have:b=false:=by simpa[WR] using hb
  subst this;simp[WS]
 |b::u,a+1,h,hb=>by
  have hb':WR u a=false:=by simpa[WR] using hb
  have:=zu (u:=u) (a:=a) (by simpa using h) hb';unfold WS at*;cases b<;>simp only[List.set_cons_succ,List.filter_cons,Bool.not_true,Bool.not_false,if_true,jmF,if_false,jlS]<;>omega
theorem SS{first m:Nat}(h:Uv B u first a=some m):m<B.length/\WR u m=false:=by
 unfold Uv at h;split at h
 .cases h
 .have:=yx h;refine⟨this.1,?_⟩;have h2:=this.2
  simp only[vF,jlK,jmo] at h2;exact h2.1
structure RunI (B:List Leg) (first:Nat) (u0 u:List Bool) (a:Nat) (ps:List Pn):Prop where
 eq:VV B first (WS u0) u0 first []=VV B first (WS u) u a ps
 len:u.length=B.length
 la:a<B.length
 free:WR u a=false
 used:a=first\/WR u first=true
theorem RunI.start{first:Nat}(hl:u.length=B.length)(hf:first<B.length)(h:WR u first=false):RunI B first u u first []:=⟨rfl,hl,hf,h,.inl rfl⟩
theorem RunI.pos{first:Nat}(h:RunI B first u0 u a ps):WS u=WS (u.set a true)+1:=(zu (by rw[h.len];exact h.la) h.free).symm
theorem RunI.first{first:Nat}(h:RunI B first u0 u a ps):WR (u.set a true) first=true:=by
 rw[Xe (by rw[h.len];exact h.la)];rcases h.used with e|e
 .simp[e]
 .simp[e]
theorem RunI.stop{first:Nat}(h:RunI B first u0 u a ps)(hs:Uv B (u.set a true) first a=none):VV B first (WS u0) u0 first []=(u.set a true,ps++[lA (lg B a)]):=by
 rw[h.eq,h.pos,VV,hs]
theorem RunI.more{first:Nat}{m:Nat}(h:RunI B first u0 u a ps)(hs:Uv B (u.set a true) first a=some m):RunI B first u0 (u.set a true) m (ps++[lA (lg B a)]):=by
 have hm:=SS hs;exact⟨by rw[h.eq,h.pos,VV,hs],by rw[jmV];exact h.len,hm.1,hm.2,.inr h.first⟩
theorem SB{B:List Leg}{first:Nat}:∀f u a ps,(VV B first f u a ps).1.length=u.length/\(VV B first f u a ps).2.length<=ps.length+f
 |0,u,a,ps=>⟨rfl,jlL _⟩
 |f+1,u,a,ps=>by
  unfold VV;split
  .exact⟨by simp,by simp⟩
  .have:=SB (B:=B) (first:=first) f (u.set a true) (by assumption) (ps++[lA (lg B a)])
   rw[jmV,jlJ] at this;exact⟨this.1,by have:=this.2;simp only[jlS,jl5] at this;omega⟩
theorem yD{B:List Leg}:∀k,(kN B k).1.length=B.length
 |0=>by simp[kN]
 |k+1=>by
  unfold kN;split
  .exact yD k
  .rw[(SB _ _ _ _).1];exact yD k
theorem Rq(u:List Bool):WS u<=u.length:=jnq _ _
theorem ja6{B:List Leg}{first:Nat}{p:Pn}:∀f u a ps,p∈(VV B first f u a ps).2->a<B.length->p∈ps\/∃j,j<B.length/\p=lA (lg B j)
 |0,u,a,ps,h,_=>.inl h
 |f+1,u,a,ps,h,ha=>by
  unfold VV at h;split at h
  .simp only[jl0,jlM] at h;rcases h with h|h
   .exact .inl h
   .exact .inr ⟨a,ha,h⟩
  .rename_i m hm;rcases ja6 f _ _ _ h (SS hm).1 with h|h
   .simp only[jl0,jlM] at h;rcases h with h|h
    .exact .inl h
    .exact .inr ⟨a,ha,h⟩
   .exact .inr h
theorem jfR{B:List Leg}{first:Nat}:∀f u a ps,ps≠[]\/0<f->(VV B first f u a ps).2≠[]
 |0,u,a,ps,h=>h.resolve_right Om
 |f+1,u,a,ps,_=>by
  unfold VV;split
  .simp
  .exact jfR f _ _ _ (.inl (by simp))
theorem Y4{B:List Leg}:∀k,k<=B.length->(kN B k).2.length<=k/\∀r∈(kN B k).2,0<r.length/\r.length<=B.length/\∀p∈r,∃j,j<B.length/\p=lA (lg B j)
 |0,_=>⟨jlL _,λr hr=>by cases hr⟩
 |k+1,hk=>by
  have ih:=Y4 (B:=B) k Om;unfold kN;split
  .exact⟨Nat.le_succ_of_le ih.1,ih.2⟩
  .rename_i hu;refine⟨by simp only[jlJ,jlS,jl5];omega,λr hr=>?_⟩;simp only[jl0,jlM] at hr;rcases hr with hr|rfl
   .exact ih.2 r hr
   .have hl:=yD (B:=B) k;have hc:=Rq (kN B k).1
    have hp:0<WS (kN B k).1:=by
     have:=zu (u:=(kN B k).1) (a:=k) Om (by simpa using hu);omega
    have h1:=SB (B:=B) (first:=k) (WS (kN B k).1) (kN B k).1 k []
    have h2:=jfR (B:=B) (first:=k) (WS (kN B k).1) (kN B k).1 k [] (.inr hp)
    refine⟨List.length_pos_iff.2 h2,by have:=h1.2;simp only[jl5] at this;omega,λp hp=>?_⟩;rcases ja6 (B:=B) _ _ _ _ hp (show k<B.length by omega) with h|h
    .cases h
    .exact h
end Go.Proofs.YtjbahemkhphndaaGreat
