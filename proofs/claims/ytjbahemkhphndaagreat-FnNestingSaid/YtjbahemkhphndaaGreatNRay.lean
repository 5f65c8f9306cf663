import Derived.Test.YtjbahemkhphndaaGreatNNetT
import Derived.Test.YtjbahemkhphndaaGreatNNetI
import Derived.Test.YtjbahemkhphndaaGreatNBrd
set_option linter.unusedVariables false
set_option linter.unusedSimpArgs false
namespace Go.Proofs.YtjbahemkhphndaaGreat
open Go Go.RowKit
variable{B E F K R:List Leg}{M N:Leg->Int}{W Y Z a b how x:Int}{e e0 f p:Leg}{v:Pn}{α:Type}
theorem uj(f:α->Int){l m:List α}(h:l.Perm m):sm f l=sm f m:=by
 induction h with
 |nil=>rfl
 |cons x _ ih=>simp only[sm,ih]
 |swap x y l=>simp only[sm];omega
 |trans _ _ h1 h2=>exact h1.trans h2
theorem MJ{α:Type}(q:α->Bool)(f:α->Int):∀l:List α,sm f (l.filter q)=sm (λe=>if q e=true then f e else 0) l
 |[]=>rfl
 |a::l=>by
  rw[List.filter_cons];by_cases h:q a=true
  .rw[if_pos h];simp only[sm,MJ q f l,if_pos h]
  .rw[if_neg h];simp only[sm,MJ q f l,if_neg h];omega
theorem LD{α:Type}(lt:α->α->Prop):∀(R:List α),R≠[]->(∀a∈R,∀b∈R,a≠b->lt a b\/lt b a)->(∀a∈R,∀b∈R,∀c∈R,lt a b->lt b c->lt a c)->∃m∈R,∀x∈R,x≠m->lt m x
 |[],h,_,_=>absurd rfl h
 |[a],_,_,_=>⟨a,by simp,λx hx hn=>absurd (jlM.1 hx) hn⟩
 |a::b::l,_,ht,hr=>by
  obtain⟨m,hm,hmin⟩:=LD lt (b::l) (by simp) (λx hx y hy=>ht x (jlQ _ hx) y (jlQ _ hy)) (λx hx y hy z hz=>hr x (jlQ _ hx) y (jlQ _ hy) z (jlQ _ hz));have hma:m∈a::b::l:=jlQ _ hm
  by_cases ham:a=m
  .subst ham;refine⟨a,by simp,λx hx hn=>?_⟩;rcases jlP.1 hx with h|h
   .exact absurd h hn
   .exact hmin x h hn
  .rcases ht a (by simp) m hma ham with h|h
   .refine⟨a,by simp,λx hx hn=>?_⟩;rcases jlP.1 hx with h1|h1
    .exact absurd h1 hn
    .by_cases hxm:x=m
     .rw[hxm];exact h
     .exact hr a (by simp) m hma x hx h (hmin x h1 hxm)
   .refine⟨m,hma,λx hx hn=>?_⟩;rcases jlP.1 hx with h1|h1
    .rw[h1];exact h
    .exact hmin x h1 hn
def Vq{α:Type}(lt:α->α->Bool)(N:α->Int)(R:List α)(p:α):Int:=sm (λe=>if lt p e=true then N e else 0) R
theorem jlj{α:Type}[DecidableEq α](lt:α->α->Bool)(N M:α->Int)(g:Int->Int->Int):∀(n:Nat) (R:List α),R.length=n->R.Nodup->
  (∀a∈R,∀b∈R,a≠b->lt a b=true\/lt b a=true)->(∀a∈R,∀b∈R,∀c∈R,lt a b=true->lt b c=true->lt a c=true)->(∀a∈R,lt a a=false)->
  sm (λp=>g (Vq lt N R p+N p) (Vq lt M R p+M p)-g (Vq lt N R p) (Vq lt M R p)) R=g (sm N R) (sm M R)-g 0 0
 |0,R,hl,_,_,_,_=>by
  obtain rfl:=List.length_eq_zero_iff.1 hl;simp[sm]
 |n+1,R,hl,hn,ht,hr,hi=>by
  obtain⟨m,hm,hmin⟩:=LD (λa b=>lt a b=true) R (by intro h;rw[h] at hl;simp at hl) ht hr;have hp:R.Perm (m::R.erase m):=List.perm_cons_erase hm
  have hsub:∀x∈R.erase m,x∈R:=λx hx=>List.mem_of_mem_erase hx
  have hnm:∀x∈R.erase m,x≠m:=λx hx e=>by
   rw[e] at hx;exact(List.Nodup.not_mem_erase hn) hx
  have hasym:∀x∈R.erase m,lt x m=false:=λx hx=>by
   cases h:lt x m with
   |false=>rfl
   |true=>
    have:=hr m hm x (hsub x hx) m hm (hmin x (hsub x hx) (hnm x hx)) h;rw[hi m hm] at this;cases this
  have key:∀(N:α->Int) (p:α),Vq lt N R p=(if lt p m=true then N m else 0)+Vq lt N (R.erase m) p:=λN p=>by
   unfold Vq;rw[uj _ hp];rfl
  have k1:∀(N:α->Int),Vq lt N R m=sm N (R.erase m):=λN=>by
   rw[key,hi m hm];have:Vq lt N (R.erase m) m=sm N (R.erase m):=JC λx hx=>if_pos (hmin x (hsub x hx) (hnm x hx))
   rw[this];simp
  have k2:∀(N:α->Int),∀p∈R.erase m,Vq lt N R p=Vq lt N (R.erase m) p:=λN p hx=>by
   rw[key,hasym p hx];simp
  have ih:=jlj lt N M g n (R.erase m) (by rw[List.length_erase_of_mem hm,hl];rfl) (hn.erase m) (λa ha b hb=>ht a (hsub a ha) b (hsub b hb)) (λa ha b hb c hc=>hr a (hsub a ha) b (hsub b hb) c (hsub c hc)) (λa ha=>hi a (hsub a ha));rw[uj _ hp,uj N hp,uj M hp];simp only[sm];rw[JC (l:=R.erase m) (g:=λp=>g (Vq lt N (R.erase m) p+N p) (Vq lt M (R.erase m) p+M p)-g (Vq lt N (R.erase m) p) (Vq lt M (R.erase m) p)) (λp hx=>by rw[k2 N p hx,k2 M p hx]),ih,k1 N,k1 M];rw[Int.add_comm (sm N (R.erase m)) (N m),Int.add_comm (sm M (R.erase m)) (M m)];omega
def den(p:Leg):Int:=p.b_y-p.ay
def num(p:Leg)(Y:Int):Int:=p.ax*den p+(p.bx-p.ax)*(Y-p.ay)
def K3(e p:Leg)(Y:Int):Int:=num e Y*den p-num p Y*den e
def Uc(e p:Leg):Int:=(e.bx-e.ax)*den p-(p.bx-p.ax)*den e
theorem Kf(e p:Leg)(Y Z:Int):K3 e p Z=K3 e p Y+Uc e p*(Z-Y):=by unfold K3 Uc num;grind
theorem GT(e p:Leg)(Y:Int):K3 p e Y= -K3 e p Y:=by unfold K3;grind
theorem jhc(e p q:Leg)(Y:Int):K3 e q Y*den p=K3 e p Y*den q+K3 p q Y*den e:=by unfold K3;grind
theorem jit(e p q:Leg):Uc e q*den p=Uc e p*den q+Uc p q*den e:=by unfold Uc;grind
theorem xe(p:Leg):num p p.ay=p.ax*den p:=by unfold num;grind
theorem Zl(p:Leg):num p p.b_y=p.bx*den p:=by unfold num den;grind
theorem E7(e p:Leg):K3 e p e.ay=den e*(e.ax*den p-num p e.ay):=by unfold K3;rw[xe];grind
theorem E8(e p:Leg):K3 e p e.b_y=den e*(e.bx*den p-num p e.b_y):=by unfold K3;rw[Zl];grind
def QF(e:Leg)(Y:Int):Bool:=decide (e.ay<=Y) &&decide (Y<e.b_y)
theorem qt :QF e Y=true↔e.ay<=Y/\Y<e.b_y:=by simp[QF]
def Vy(e p:Leg):Int:=max e.ay p.ay
def wE(e p:Leg):Int:=min e.b_y p.b_y
def wV(e p:Leg):Bool:=decide (0<K3 e p (Vy e p)+K3 e p (wE e p))
def Ej(e p:Leg)(Y:Int):Prop:=0<K3 e p Y\/(K3 e p Y=0/\0<Uc e p)
theorem vT(hb:0<b)(h:0<a*b):0<a:=by
 rcases Int.lt_or_le 0 a with h1|h1
 .exact h1
 .have:=jl2 (show 0≤-a by omega) (jmw hb);rw[jnz] at this;omega
theorem Qx(hb:0<b)(h:a*b=0):a=0:=by
 rcases Int.mul_eq_zero.1 h with h|h
 .exact h
 .omega
theorem x6{q:Leg}(he:0<den e)(hp:0<den p)(hq:0<den q)(h1:Ej e p Y)(h2:Ej p q Y):Ej e q Y:=by
 have t1:=jhc e p q Y;have t2:=jit e p q
 rcases h1 with h1|⟨h1,h1'⟩
 .have a1:=jmj h1 hq;rcases h2 with h2|⟨h2,_⟩
  .have a2:=jmj h2 he;exact .inl (vT hp Om)
  .rw[h2,jmz] at t1;exact .inl (vT hp Om)
 .rw[h1,jmz] at t1;rcases h2 with h2|⟨h2,h2'⟩
  .have a2:=jmj h2 he;exact .inl (vT hp Om)
  .rw[h2,jmz] at t1;have a1:=jmj h1' hq
   have a2:=jmj h2' he;exact .inr ⟨Qx hp Om,vT hp Om⟩
structure SepE (e p:Leg):Prop where
 side:0<den e->0<den p->Vy e p<wE e p->(0<=K3 e p (Vy e p)/\0<=K3 e p (wE e p)/\0<K3 e p (Vy e p)+K3 e p (wE e p))\/(K3 e p (Vy e p)<=0/\K3 e p (wE e p)<=0/\K3 e p (Vy e p)+K3 e p (wE e p)<0)
 endA:0<den p->p.ay<e.ay->e.ay<p.b_y->e.ax*den p≠num p e.ay
 endB:0<den p->p.ay<e.b_y->e.b_y<p.b_y->e.bx*den p≠num p e.b_y
 flat:0<den p->e.ay=e.b_y->p.ay<e.ay->e.ay<p.b_y->(num p e.ay<e.ax*den p/\num p e.ay<e.bx*den p)\/(e.ax*den p<num p e.ay/\e.bx*den p<num p e.ay)
structure SepL (e p:Leg):Prop where
 lev:p.ay=p.b_y->0<den e->e.ay<=p.ay->p.ay<=e.b_y->num e p.ay<=p.ax*den e\/p.bx*den e<=num e p.ay
 lev2:p.ay=p.b_y->e.ay=e.b_y->e.ay=p.ay->e.bx<=p.ax\/p.bx<=e.ax
theorem uf(h:SepE e p)(he:QF e Y=true)(hp:QF p Y=true):wV e p=true↔Ej e p Y:=by
 rw[qt] at he hp;have de:0<den e:=by unfold den;omega
 have dp:0<den p:=by unfold den;omega
 have hL:Vy e p<=Y:=by unfold Vy;omega
 have hU:Y<wE e p:=by unfold wE;omega
 have hs:=h.side de dp Om;have l1:=Kf e p (Vy e p) Y
 have l2:=Kf e p Y (wE e p);have l3:=Kf e p (Vy e p) (wE e p)
 unfold wV Ej;rw[decide_eq_true_iff];generalize K3 e p (Vy e p)=a at*;generalize K3 e p (wE e p)=b at*;generalize K3 e p Y=c at*;generalize Vy e p=L at*;generalize wE e p=U at*;generalize Uc e p=s at*;have main:c*(U-L)=a*(U-Y)+b*(Y-L):=by
  have:b=a+s*(U-L):=l3;rw[l1,this];grind
 rcases hs with⟨h1,h2,h3⟩|⟨h1,h2,h3⟩
 .refine⟨λ_=>?_,λ_=>h3⟩;have m1:=jl2 h1 (show 0<=U-Y by omega)
  have m2:=jl2 h2 (show 0<=Y-L by omega);rcases jmv c 0 with hc|hc|hc
  .have:=jmD hc (show 0<U-L by omega);omega
  .right;refine⟨hc,?_⟩;rw[hc,jmz] at main;have ha:a=0:=Qx (show 0<U-Y by omega) Om
   have hb:0<s*(U-L):=by omega
   exact vT Om hb
  .exact .inl hc
 .refine⟨λk=>absurd k Om,λk=>?_⟩;exfalso;have m1:=jl2 (show 0≤-a by omega) (show 0<=U-Y by omega)
  have m2:=jl2 (show 0≤-b by omega) (show 0<=Y-L by omega);rw[jnz] at m1 m2;rcases k with k|⟨k,k'⟩
  .have:=jmj k (show 0<U-L by omega);omega
  .rw[k,jmz] at main;have ha: -a=0:=Qx (show 0<U-Y by omega) (by rw[jnz];omega)
   have:=jmj k' (show 0<U-L by omega);omega
theorem jhA(e p:Leg):Vy e p=Vy p e:=by unfold Vy;omega
theorem jhl(e p:Leg):wE e p=wE p e:=by unfold wE;omega
theorem Sy(h:SepE e p)(he:QF e Y=true)(hp:QF p Y=true):(wV e p=true\/wV p e=true):=by
 rw[qt] at he hp;have hs:=h.side (by unfold den;omega) (by unfold den;omega) (by unfold Vy wE;omega)
 unfold wV;rw[decide_eq_true_iff,decide_eq_true_iff,<-jhA e p,<-jhl e p,GT e p,GT e p];omega
theorem UC(p:Leg):wV p p=false:=by
 unfold wV;have h1:∀Y,K3 p p Y=0:=λY=>by unfold K3;omega
 rw[h1,h1];rfl
def psi(p:Leg)(Y Z x y:Int):Int:=if(Y<y/\y<=Z)/\num p y<x*den p then 1 else 0
def ix(b:Bool):Int:=if b=true then 1 else 0
theorem Ga{d y:Int}(hd:0<d):0<d*(x-y)↔y<x:=by
 constructor
 .intro h;have:=vT hd (show 0<(x-y)*d by rw[jmn];exact h)
  omega
 .intro h;exact jmj hd Om
theorem Cw(h:SepE e p)(dp:0<den p)(hab:e.ay<=e.b_y)(h1:p.ay<=Y)(h2:Y<=Z)(h3:Z<p.b_y):
  ix (QF e Z&&wV e p)-ix (QF e Y&&wV e p)=psi p Y Z e.ax e.ay-psi p Y Z e.bx e.b_y:=by
 rcases jm7 hab with hlt|heq
 .have de:0<den e:=by unfold den;omega
  have onA:Y<e.ay->e.ay<=Z->psi p Y Z e.ax e.ay=ix (wV e p):=λa1 a2=>by
   have hs:=h.side de dp (by unfold Vy wE;omega);have eL:Vy e p=e.ay:=by unfold Vy;omega
   have hne:=h.endA dp Om Om;have hd:=E7 e p
   rw[eL] at hs;have hiff:=Ga (x:=e.ax*den p) (y:=num p e.ay) de
   rw[<-hd] at hiff;have hz:K3 e p e.ay≠0:=λh0=>by
    rw[hd] at h0;rcases Int.mul_eq_zero.1 h0 with h0|h0<;>omega
   unfold psi ix wV;rw[eL];by_cases hp:num p e.ay<e.ax*den p
   .rw[if_pos ⟨⟨a1,a2⟩,hp⟩,if_pos (decide_eq_true (by have:=hiff.2 hp;omega))]
   .rw[if_neg (λk=>hp k.2),if_neg (by rw[decide_eq_true_iff];have:¬0<K3 e p e.ay:=λk=>hp (hiff.1 k);omega)]
  have Tc:Y<e.b_y->e.b_y<=Z->psi p Y Z e.bx e.b_y=ix (wV e p):=λa1 a2=>by
   have hs:=h.side de dp (by unfold Vy wE;omega);have eU:wE e p=e.b_y:=by unfold wE;omega
   have hne:=h.endB dp Om Om;have hd:=E8 e p
   rw[eU] at hs;have hiff:=Ga (x:=e.bx*den p) (y:=num p e.b_y) de
   rw[<-hd] at hiff;have hz:K3 e p e.b_y≠0:=λh0=>by
    rw[hd] at h0;rcases Int.mul_eq_zero.1 h0 with h0|h0<;>omega
   unfold psi ix wV;rw[eU];by_cases hp:num p e.b_y<e.bx*den p
   .rw[if_pos ⟨⟨a1,a2⟩,hp⟩,if_pos (decide_eq_true (by have:=hiff.2 hp;omega))]
   .rw[if_neg (λk=>hp k.2),if_neg (by rw[decide_eq_true_iff];have:¬0<K3 e p e.b_y:=λk=>hp (hiff.1 k);omega)]
  have offA:¬(Y<e.ay/\e.ay<=Z)->psi p Y Z e.ax e.ay=0:=λk=>if_neg (λq=>k q.1)
  have offB:¬(Y<e.b_y/\e.b_y<=Z)->psi p Y Z e.bx e.b_y=0:=λk=>if_neg (λq=>k q.1)
  have actv:∀W,ix (QF e W&&wV e p)=if e.ay<=W/\W<e.b_y then ix (wV e p) else 0:=λW=>by
   unfold ix;by_cases hw:e.ay<=W/\W<e.b_y
   .rw[if_pos hw,qt.2 hw,jlZ]
   .have:QF e W=false:=by cases k:QF e W with|false=>rfl|true=>exact absurd (qt.1 k) hw
    rw[if_neg hw,this];rfl
  rw[actv,actv];by_cases a1:Y<e.ay/\e.ay<=Z
  .rw[onA a1.1 a1.2];by_cases b1:Y<e.b_y/\e.b_y<=Z
   .rw[Tc b1.1 b1.2,if_neg Om,if_neg Om];omega
   .rw[offB b1,if_pos Om,if_neg Om]
  .rw[offA a1];by_cases b1:Y<e.b_y/\e.b_y<=Z
   .rw[Tc b1.1 b1.2,if_neg Om,if_pos Om]
   .rw[offB b1];by_cases c1:e.ay<=Y/\Y<e.b_y
    .rw[if_pos Om,if_pos c1];omega
    .rw[if_neg Om,if_neg c1]
 .have na:∀W,ix (QF e W&&wV e p)=0:=λW=>by
   have:QF e W=false:=by cases k:QF e W with|false=>rfl|true=>(have:=qt.1 k;omega)
   rw[this];rfl
  rw[na,na];unfold psi;rw[<-heq];by_cases hr:Y<e.ay/\e.ay<=Z
  .have hf:=h.flat dp heq Om Om;rcases hf with hf|hf
   .rw[if_pos ⟨hr,hf.1⟩,if_pos ⟨hr,hf.2⟩];rfl
   .rw[if_neg (λk=>by omega),if_neg (λk=>by omega)]
  .rw[if_neg (λk=>hr k.1),if_neg (λk=>hr k.1)]
structure Net (K:List Leg) (N:Leg->Int):Prop where
 nd:K.Nodup
 ord:∀e∈K,vv (lA e) (lB e)
 sep:∀e∈K,∀p∈K,e≠p->SepE e p
 close:∀f:Int->Int->Int,sm (λe=>N e*(f e.ax e.ay-f e.bx e.b_y)) K=0
theorem Dk(h:vv (lA e) (lB e)):e.ay<=e.b_y:=by
 rcases h with h|⟨h,_⟩
 .exact jmw h
 .exact jns h
def Vm(K:List Leg)(N:Leg->Int)(p:Leg)(Y:Int):Int:=sm (λe=>if e=p then 0 else N e*ix (QF e Y&&wV e p)) K
theorem MH(h:Net K N)(hp:p∈K)(h1:p.ay<=Y)(h2:Y<=Z)(h3:Z<p.b_y):Vm K N p Z=Vm K N p Y:=by
 have dp:0<den p:=by unfold den;omega
 have key:sm (λe=>(if e=p then 0 else N e*ix (QF e Z&&wV e p))-(if e=p then 0 else N e*ix (QF e Y&&wV e p))) K=sm (λe=>N e*(psi p Y Z e.ax e.ay-psi p Y Z e.bx e.b_y)) K:=by
  refine JC λe he=>?_
  by_cases hep:e=p
  .rw[if_pos hep,if_pos hep,hep];have a:psi p Y Z p.ax p.ay=0:=if_neg (λk=>by omega)
   have b:psi p Y Z p.bx p.b_y=0:=if_neg (λk=>by omega);rw[a,b];simp
  .rw[if_neg hep,if_neg hep,<-Cw (h.sep e he p hp hep) dp (Dk (h.ord e he)) h1 h2 h3];grind
 rw[Ud,h.close (psi p Y Z)] at key;unfold Vm;omega
theorem zR(h:Net K N)(hp:p∈K)(hY:QF p Y=true)(hZ:QF p Z=true):Vm K N p Z=Vm K N p Y:=by
 rw[qt] at hY hZ;rcases Int.le_total Y Z with k|k
 .exact MH h hp hY.1 k hZ.2
 .exact(MH h hp hZ.1 k hY.2).symm
theorem WP{q:Leg->Bool}:sm (λe=>N e*ix (q e)) K=sm N (K.filter q):=by
 rw[MJ];refine JC λe _=>?_
 unfold ix;split<;>simp
structure UpR (K R:List Leg) (Y:Int):Prop where
 sub:∀e∈R,e∈K/\QF e Y=true
 nd:R.Nodup
 all:∀p∈R,∀e∈K,QF e Y=true->wV e p=true->e∈R
theorem C5{l m:List Leg}(hl:l.Nodup)(hm:m.Nodup)(h:∀x,x∈l↔x∈m):l.Perm m:=(jnH hl hm).2 h
theorem HH(h:Net K N)(hu:UpR K R Y)(hp:p∈R):Vq (λp e=>wV e p) N R p=Vm K N p Y:=by
 unfold Vq Vm;have e1:sm (λe=>if e=p then 0 else N e*ix (QF e Y&&wV e p)) K=sm N (K.filter λe=>QF e Y&&wV e p):=by
  rw[<-WP];refine JC λe _=>?_
  by_cases hep:e=p
  .rw[if_pos hep,hep,UC,jno];simp[ix]
  .rw[if_neg hep]
 have e2:sm (λe=>if wV e p=true then N e else 0) R=sm N (R.filter λe=>wV e p):=(MJ _ _ _).symm
 rw[e1,e2];refine uj _ (C5 (hu.nd.filter _) (h.nd.filter _) λx=>?_);simp only[jmx,jlK];constructor
 .rintro⟨h1,h2⟩;exact⟨(hu.sub x h1).1,(hu.sub x h1).2,h2⟩
 .rintro⟨h1,h2,h3⟩;exact⟨hu.all p hp x h1 h2 h3,h3⟩
theorem ray(hN:Net K N)(hM:Net K M)(hu:UpR K R Y)(g:Int->Int->Int):
  sm (λp=>g (Vm K N p Y+N p) (Vm K M p Y+M p)-g (Vm K N p Y) (Vm K M p Y)) R=g (sm N R) (sm M R)-g 0 0:=by
 have hd:∀e∈R,0<den e:=λe he=>by have:=qt.1 (hu.sub e he).2;unfold den;omega
 have hs:∀a∈R,∀b∈R,a≠b->SepE a b:=λa ha b hb hn=>hN.sep a (hu.sub a ha).1 b (hu.sub b hb).1 hn
 have ht:=jlj (λp e=>wV e p) N M g R.length R rfl hu.nd
  (λa ha b hb hn=>(Sy (hs b hb a ha (Ne.symm hn)) (hu.sub b hb).2 (hu.sub a ha).2))
  (λa ha b hb c hc h1 h2=>by
   by_cases hab:b=a
   .subst hab;exact h2
   .by_cases hbc:c=b
    .subst hbc;exact h1
    .have r1:=(uf (hs b hb a ha hab) (hu.sub b hb).2 (hu.sub a ha).2).1 h1;have r2:=(uf (hs c hc b hb hbc) (hu.sub c hc).2 (hu.sub b hb).2).1 h2
     have r3:=x6 (hd c hc) (hd b hb) (hd a ha) r2 r1;by_cases hac:c=a
     .subst hac;exfalso;have z1:K3 c c Y=0:=by unfold K3;omega
      have z2:Uc c c=0:=by unfold Uc;omega
      unfold Ej at r3;omega
     .exact(uf (hs c hc a ha hac) (hu.sub c hc).2 (hu.sub a ha).2).2 r3)
  (λa _=>UC a)
 rw[<-ht];refine JC λp hp=>?_
 rw[HH hN hu hp,HH hM hu hp]
theorem L6[DecidableEq α]{K:List α}(hn:K.Nodup){k:α}(hk:k∈K)(F:α->Int):sm (λx=>if k=x then F x else 0) K=F k:=by
 induction K with
 |nil=>cases hk
 |cons a l ih=>
  simp only[sm];rw[jmY] at hn;by_cases h:k=a
  .rw[if_pos h,JC (g:=λ_=>0) (λx hx=>if_neg (λe=>hn.1 (by rw[<-h,e];exact hx))),Q0,h];omega
  .rw[if_neg h,ih hn.2 ((jlP.1 hk).resolve_left h)];omega
theorem x5{K:List Leg}(hn:K.Nodup)(F:Leg->Int):∀(E:List Leg),(∀e∈E,qh e∈K)->sm (λe=>sg e*F (qh e)) E=sm (λk=>qd E k*F k) K
 |[],_=>by
  have:sm (λk=>qd [] k*F k) K=sm (λ_=>(0:Int)) K:=JC λk _=>by simp[qd,sm]
  rw[this,Q0];rfl
 |e::E,h=>by
  have ih:=x5 hn F E (λx hx=>h x (jlQ _ hx));have e1:sm (λk=>qd (e::E) k*F k) K=sm (λk=>(if qh e=k then sg e*F k else 0)+qd E k*F k) K:=JC λk _=>by
   simp only[qd,sm];split<;>grind
  rw[e1,UF,L6 hn (h e (by simp)) (λk=>sg e*F k),<-ih];rfl
theorem I9(e:Leg)(x y:Int):sg e*kk (qh e) x y=kk e x y:=by
 unfold sg qh;split
 .rw[Xf];omega
 .omega
def rgP(x y:Int)(e:Leg):Bool:=QF e y&&decide (x*den e<num e y)
theorem jbw(e:Leg)(x y:Int):kU e.ax e.ay e.bx e.b_y x y=num e y-x*den e:=by unfold kU num den;grind
theorem PY(h:vv (lA e) (lB e))(x y:Int):kk e x y=ix (rgP x y e):=by
 have hy:e.ay<=e.b_y:=by
  rcases h with h|⟨h,_⟩
  .exact jmw h
  .exact jns h
 rw[xF,jbw];unfold ix rgP QF;by_cases h1:(e.ay<=y/\y<e.b_y)/\0<num e y-x*den e
 .rw[if_pos h1,if_pos (by simp;omega)]
 .rw[if_neg h1,if_neg Om,if_neg (by simp;omega)]
theorem jcr(h:Net K N)(hp:p∈K)(hl:p.ay<p.b_y){mx my:Int}(hx:2*mx=p.ax+p.bx)(hy:2*my=p.ay+p.b_y):
  sm (λe=>if e=p then 0 else N e*kk e mx my) K=Vm K N p my:=by
 have dp:0<den p:=by unfold den;omega
 have hm:num p my=mx*den p:=by
  have e1:2*num p my=2*(mx*den p):=by
   have:2*num p my=2*p.ax*den p+(p.bx-p.ax)*(2*my-2*p.ay):=by unfold num;grind
   rw[this,hy];have:2*(mx*den p)=(2*mx)*den p:=by grind
   rw[this,hx];unfold den;grind
  omega
 unfold Vm;refine JC λe he=>?_
 by_cases hep:e=p
 .rw[if_pos hep,if_pos hep]
 .rw[if_neg hep,if_neg hep,PY (h.ord e he)];have hs:=h.sep e he p hp hep
  have:rgP mx my e=(QF e my&&wV e p):=by
   unfold rgP;cases ha:QF e my with
   |false=>rfl
   |true=>
    rw[jlZ,jlZ,jl8,decide_eq_true_iff,uf hs ha (qt.2 ⟨by omega,by omega⟩)];have ha2:=qt.1 ha
    have de:0<den e:=by unfold den;omega
    have hd:K3 e p my=den p*(num e my-mx*den e):=by unfold K3;rw[hm];grind
    have hne:K3 e p my≠0:=λh0=>by
     have hL:Vy e p<=my:=by unfold Vy;omega
     have hU:my<wE e p:=by unfold wE;omega
     rcases jm7 hL with h1|h1
     .have hsd:=hs.side de dp Om;have l1:=Kf e p (Vy e p) my
      have l3:=Kf e p (Vy e p) (wE e p);rw[h0] at l1;have main:0=K3 e p (Vy e p)*(wE e p-my)+K3 e p (wE e p)*(my-Vy e p):=by
       rw[l3];generalize K3 e p (Vy e p)=a at*;generalize Uc e p=s at*;generalize Vy e p=L at*;generalize wE e p=U at*;have:a= -(s*(my-L)):=by omega
       rw[this];grind
      rcases hsd with⟨b1,b2,b3⟩|⟨b1,b2,b3⟩
      .have m1:=jl2 b1 (show 0<=wE e p-my by omega);have m2:=jl2 b2 (show 0<=my-Vy e p by omega)
       have z1:=Qx (a:=K3 e p (Vy e p)) (show 0<wE e p-my by omega) Om;have z2:=Qx (a:=K3 e p (wE e p)) (show 0<my-Vy e p by omega) Om
       omega
      .have m1:=jl2 (show 0≤-K3 e p (Vy e p) by omega) (show 0<=wE e p-my by omega);have m2:=jl2 (show 0≤-K3 e p (wE e p) by omega) (show 0<=my-Vy e p by omega)
       rw[jnz] at m1 m2;have z1:=Qx (a:=K3 e p (Vy e p)) (show 0<wE e p-my by omega) Om
       have z2:=Qx (a:=K3 e p (wE e p)) (show 0<my-Vy e p by omega) Om;omega
     .have he2:e.ay=my:=by unfold Vy at h1;omega
      have hA:=hs.endA dp Om Om;have:=E7 e p
      rw[he2,h0] at this;rcases Int.mul_eq_zero.1 this.symm with k|k
      .omega
      .rw[he2] at hA;omega
    have hiff:0<K3 e p my↔mx*den e<num e my:=by rw[hd];exact Ga dp
    unfold Ej;omega
  rw[this]
theorem U1{α β:Type}(f:β->Int)(g:α->List β):∀l:List α,sm f (l.flatMap g)=sm (λx=>sm f (g x)) l
 |[]=>rfl
 |x::l=>by rw[jl4,Qz,U1 f g l];rfl
theorem jbm(p:Leg)(l r:Bool)(f:Leg->Int)(hf:f (qW p)= -f p):sm f (zS p l r)=(ix l-ix r)*f p:=by
 unfold zS ix;cases l<;>cases r<;>simp[sm,hf]
abbrev tw(e:Leg):Leg:=ko true e
theorem z7(e:Leg):qh (tw e)=tw (qh e):=by
 unfold qh;have:vv (lB (tw e)) (lA (tw e))↔vv (lB e) (lA e):=by simp only[vv,lA,lB,tw,ko,if_true];omega
 by_cases h:vv (lB e) (lA e)
 .rw[if_pos h,if_pos (this.2 h)];rfl
 .rw[if_neg h,if_neg (λk=>h (this.1 k))]
theorem I5(e:Leg):sg (tw e)=sg e:=by
 unfold sg;have:vv (lB (tw e)) (lA (tw e))↔vv (lB e) (lA e):=by simp only[vv,lA,lB,tw,ko,if_true];omega
 by_cases h:vv (lB e) (lA e)
 .rw[if_pos h,if_pos (this.2 h)]
 .rw[if_neg h,if_neg (λk=>h (this.1 k))]
theorem Mg(h:tw e=tw f):e=f:=by
 rcases e with⟨a1,a2,a3,a4⟩
 rcases f with⟨b1,b2,b3,b4⟩
 simp only[tw,ko,if_true,Leg.mk.injEq] at h;rw[Leg.mk.injEq];omega
theorem xD(E:List Leg)(p:Leg):qd (E.map tw) (tw p)=qd E p:=by
 unfold qd;rw[VC];refine JC λe _=>?_
 rw[z7,I5];by_cases h:qh e=p
 .rw[if_pos h,if_pos (by rw[h])]
 .rw[if_neg h,if_neg (λk=>h (Mg k))]
theorem vV(e:Leg):den (tw e)=2*den e:=by simp only[den,tw,ko,if_true];omega
theorem Yv(e:Leg)(Y:Int):num (tw e) (2*Y)=4*num e Y:=by simp only[num,den,tw,ko,if_true];grind
theorem jgq(e p:Leg)(Y:Int):K3 (tw e) (tw p) (2*Y)=8*K3 e p Y:=by
 unfold K3;rw[Yv,Yv,vV,vV];grind
theorem yE(h:SepE e p):SepE (tw e) (tw p) where
 side:=λh1 h2 h3=>by
  have eL:Vy (tw e) (tw p)=2*Vy e p:=by simp only[Vy,tw,ko,if_true];omega
  have eU:wE (tw e) (tw p)=2*wE e p:=by simp only[wE,tw,ko,if_true];omega
  rw[vV] at h1 h2;rw[eL,eU] at h3;have:=h.side Om Om Om
  rw[eL,eU,jgq,jgq];omega
 endA:=λh1 h2 h3=>by
  rw[vV] at h1;have e1:(tw e).ay=2*e.ay:=rfl
  have e2:(tw e).ax=2*e.ax:=rfl;have e3:(tw p).ay=2*p.ay:=rfl
  have e4:(tw p).b_y=2*p.b_y:=rfl;rw[e1,e3] at h2;rw[e1,e4] at h3;have:=h.endA Om Om Om
  rw[e1,e2,Yv,vV];intro k;have k4:4*(e.ax*den p)=4*num p e.ay:=(by rw[<-k];grind)
  exact this Om
 endB:=λh1 h2 h3=>by
  rw[vV] at h1;have e1:(tw e).b_y=2*e.b_y:=rfl
  have e2:(tw e).bx=2*e.bx:=rfl;have e3:(tw p).ay=2*p.ay:=rfl
  have e4:(tw p).b_y=2*p.b_y:=rfl;rw[e1,e3] at h2;rw[e1,e4] at h3;have:=h.endB Om Om Om
  rw[e1,e2,Yv,vV];intro k;have k4:4*(e.bx*den p)=4*num p e.b_y:=(by rw[<-k];grind)
  exact this Om
 flat:=λh1 h0 h2 h3=>by
  rw[vV] at h1;have e0:(tw e).b_y=2*e.b_y:=rfl
  have e1:(tw e).ay=2*e.ay:=rfl;have e2:(tw e).ax=2*e.ax:=rfl
  have e2':(tw e).bx=2*e.bx:=rfl;have e3:(tw p).ay=2*p.ay:=rfl
  have e4:(tw p).b_y=2*p.b_y:=rfl;rw[e1,e0] at h0;rw[e1,e3] at h2;rw[e1,e4] at h3;have:=h.flat Om Om Om Om
  rw[e1,e2,e2',Yv,vV];have q1:2*e.ax*(2*den p)=4*(e.ax*den p):=by grind
  have q2:2*e.bx*(2*den p)=4*(e.bx*den p):=by grind
  rw[q1,q2];omega
theorem jiH(h:SepL e p):SepL (tw e) (tw p) where
 lev:=λh1 h2 h3 h4=>by
  rw[vV] at h2;have e1:(tw p).ay=2*p.ay:=rfl
  have e2:(tw p).b_y=2*p.b_y:=rfl;have e3:(tw e).ay=2*e.ay:=rfl
  have e4:(tw e).b_y=2*e.b_y:=rfl;have e5:(tw p).ax=2*p.ax:=rfl
  have e6:(tw p).bx=2*p.bx:=rfl;rw[e1,e2] at h1;rw[e1,e3] at h3;rw[e1,e4] at h4;have:=h.lev Om Om Om Om
  rw[e1,e5,e6,Yv,vV];have q1:2*p.ax*(2*den e)=4*(p.ax*den e):=by grind
  have q2:2*p.bx*(2*den e)=4*(p.bx*den e):=by grind
  rw[q1,q2];omega
 lev2:=λh1 h2 h3=>by
  simp only[tw,ko,if_true] at h1 h2 h3⊢;have:=h.lev2 Om Om Om
  omega
theorem jgr:∀{K:List Leg},K.Nodup->(K.map tw).Nodup
 |[],_=>List.nodup_nil
 |a::l,h=>by
  rw[jmY] at h;rw[jmA,jmY];refine⟨λk=>?_,jgr h.2⟩;obtain⟨b,hb,e⟩:=jlR.1 k;exact h.1 (Mg e▸hb)
structure Keys (K E:List Leg):Prop where
 nd:K.Nodup
 ord:∀p∈K,vv (lA p) (lB p)
 sep:∀e∈K,∀p∈K,e≠p->SepE e p
 sepl:∀e∈K,∀p∈K,e≠p->SepL e p
 all:∀e∈E,qh e∈K
 close:∀f:Int->Int->Int,sm (λe:Leg=>f e.ax e.ay-f e.bx e.b_y) E=0
theorem Keys.net(h:Keys K E):Net (K.map tw) (qd (E.map tw)) where
 nd:=jgr h.nd
 ord:=λe he=>by
  obtain⟨p,hp,rfl⟩:=jlR.1 he;have:=h.ord p hp
  simp only[vv,lA,lB,tw,ko,if_true] at this⊢;omega
 sep:=λe he p hp hn=>by
  obtain⟨e0,he0,rfl⟩:=jlR.1 he;obtain⟨p0,hp0,rfl⟩:=jlR.1 hp;exact yE (h.sep e0 he0 p0 hp0 λk=>hn (by rw[k]))
 close:=λf=>by
  have hr:=x5 (K:=K.map tw) (jgr h.nd) (λe=>f e.ax e.ay-f e.bx e.b_y) (E.map tw) (λe he=>by
   obtain⟨e0,he0,rfl⟩:=jlR.1 he;rw[z7];exact jlR.2 ⟨_,h.all e0 he0,rfl⟩)
  rw[<-hr,VC];rw[<-h.close (λx y=>f (2*x) (2*y))];refine JC λe _=>?_
  rw[z7,I5];unfold sg qh;split
  .simp only[tw,ko,if_true,qW];omega
  .simp only[tw,ko,if_true];omega
theorem Keys.out(h:Keys K E)(hp:p∈K)(hl:p.ay<p.b_y):Qw E p=Vm (K.map tw) (qd (E.map tw)) (tw p) (QY p):=by
 have hm:=jcr h.net (p:=tw p) (jlR.2 ⟨p,hp,rfl⟩) (by show 2*p.ay<2*p.b_y;omega) (mx:=kS p) (my:=QY p) (by show _=2*p.ax+2*p.bx;unfold kS;omega) (by show _=2*p.ay+2*p.b_y;unfold QY;omega);rw[<-hm];have hr:=x5 (K:=K.map tw) h.net.nd (λe=>if e=tw p then 0 else kk e (kS p) (QY p)) (E.map tw) (λe he=>by
   obtain⟨e0,he0,rfl⟩:=jlR.1 he;rw[z7];exact jlR.2 ⟨_,h.all e0 he0,rfl⟩)
 have e2:sm (λe=>if e=tw p then 0 else qd (E.map tw) e*kk e (kS p) (QY p)) (K.map tw)=sm (λk=>qd (E.map tw) k*(if k=tw p then 0 else kk k (kS p) (QY p))) (K.map tw):=JC λk _=>by split<;>simp
 rw[e2,<-hr,VC];unfold Qw;refine JC λe _=>?_
 rw[z7,I5];by_cases k:qh e=p
 .rw[if_pos k,if_pos (by rw[k])];simp
 .rw[if_neg k,if_neg (λc=>k (Mg c)),<-I9 (tw e),z7,I5]
def Va(K E F:List Leg)(how:Int):List Leg:=K.flatMap λp=>zS p (QW (Q5 E p).left (Q5 F p).left how) (QW (Q5 E p).right (Q5 F p).right how)
theorem jcc(how:Int):QW 0 0 how=false:=by unfold QW;split<;>(try split)<;>(try split)<;>rfl
section vertex
variable{K:List Leg}{N M:Leg->Int}{X Y:Int}
def Xg(X Y W:Int)(s:Bool)(e:Leg):Bool:=QF e W&& (if s=true then decide (X*den e<=num e Y) else decide (X*den e<num e Y))
theorem Z2(h:SepE e p)(he:QF e W=true)(hp:QF p W=true)(hr:wV e p=true)(h1:W<=Y)(h2:Y<=e.b_y)(h3:Y<=p.b_y):0<=K3 e p Y:=by
 have a1:=qt.1 he;have a2:=qt.1 hp
 have de:0<den e:=by unfold den;omega
 have dp:0<den p:=by unfold den;omega
 have hL:Vy e p<=W:=by unfold Vy;omega
 have hU:Y<=wE e p:=by unfold wE;omega
 have hU2:W<wE e p:=by unfold wE;omega
 have hs:=h.side de dp Om;unfold wV at hr;rw[decide_eq_true_iff] at hr;have l1:=Kf e p (Vy e p) Y
 have l3:=Kf e p (Vy e p) (wE e p);generalize K3 e p (Vy e p)=a at*;generalize K3 e p (wE e p)=b at*;generalize K3 e p Y=c at*;generalize Vy e p=L at*;generalize wE e p=U at*;generalize Uc e p=s at*;have main:c*(U-L)=a*(U-Y)+b*(Y-L):=by
  have:b=a+s*(U-L):=l3;rw[l1,this];grind
 have m1:=jl2 (show 0<=a by omega) (show 0<=U-Y by omega);have m2:=jl2 (show 0<=b by omega) (show 0<=Y-L by omega)
 rcases Int.lt_or_le c 0 with hc|hc
 .have:=jmD hc (show 0<U-L by omega);omega
 .exact hc
theorem jgu(h:Net K N)(X:Int)(s:Bool)(hW:W<=Y)(hY:∀e∈K,QF e W=true->Y<=e.b_y):UpR K (K.filter (Xg X Y W s)) W where
 sub:=λe he=>by
  have:=jmx.1 he;refine⟨this.1,?_⟩;have h2:=this.2
  unfold Xg at h2;rw[jlK] at h2;exact h2.1
 nd:=h.nd.filter _
 all:=λp hp e he ha hr=>by
  obtain⟨hpK,hp2⟩:=jmx.1 hp;unfold Xg at hp2;rw[jlK] at hp2;refine jmx.2 ⟨he,?_⟩;unfold Xg;rw[ha,jlZ];by_cases hep:e=p
  .rw[hep];exact hp2.2
  .have h0:=Z2 (h.sep e he p hpK hep) ha hp2.1 hr hW (hY e he ha) (hY p hpK hp2.1);have de:0<den e:=by have:=qt.1 ha;unfold den;omega
   have dp:0<den p:=by have:=qt.1 hp2.1;unfold den;omega
   have h1:num p Y*den e<=num e Y*den p:=by unfold K3 at h0;omega
   cases s with
   |true=>
    have h2:=hp2.2;rw[if_pos rfl,decide_eq_true_iff] at h2⊢;have h3:=jlO h2 (jmw de)
    have h4:X*den e*den p<=num e Y*den p:=by
     have:X*den e*den p=X*den p*den e:=by grind
     omega
    exact jmk h4 dp
   |false=>
    have h2:=hp2.2;rw[if_neg Dc,decide_eq_true_iff] at h2⊢;have h3:=jl6 h2 de
    have h4:X*den e*den p<num e Y*den p:=by
     have:X*den e*den p=X*den p*den e:=by grind
     omega
    exact jmm h4 (jmw dp)
theorem jck(h:Net K N)(he2:∀e∈K,(∃a,e.ay=2*a)/\∃b,e.b_y=2*b)(X:Int)(hY:∃y,Y=2*y)(s:Bool):
  sm N (K.filter (Xg X Y Y s))-sm N (K.filter (Xg X Y (Y-1) s))=sm (λe=>N e*ix (decide (e.ay=e.b_y) &&decide (e.ay=Y) && (if s=true then decide (e.ax<X) &&decide (X<=e.bx) else decide (e.ax<=X) &&decide (X<e.bx)))) K:=by
 obtain⟨y,hy⟩:=hY;have hc:=h.close (λx' y'=>ix (decide (y'=Y) && (if s=true then decide (X<=x') else decide (X<x'))))
 rw[<-WP,<-WP,<-Ud];have key:sm (λe=>(N e*ix (Xg X Y Y s e)-N e*ix (Xg X Y (Y-1) s e))-N e*ix (decide (e.ay=e.b_y) &&decide (e.ay=Y) && (if s=true then decide (e.ax<X) &&decide (X<=e.bx) else decide (e.ax<=X) &&decide (X<e.bx)))) K
   =sm (λe=>N e*(ix (decide (e.ay=Y) && (if s=true then decide (X<=e.ax) else decide (X<e.ax)))-ix (decide (e.b_y=Y) && (if s=true then decide (X<=e.bx) else decide (X<e.bx))))) K:=by
  refine JC λe he=>?_
  obtain⟨⟨a,ha⟩,b,hb⟩:=he2 e he;have ho:=h.ord e he
  have ho2:e.ay<e.b_y\/(e.ay=e.b_y/\e.ax<e.bx):=ho;have main:ix (Xg X Y Y s e)-ix (Xg X Y (Y-1) s e)-ix (decide (e.ay=e.b_y) &&decide (e.ay=Y) && (if s=true then decide (e.ax<X) &&decide (X<=e.bx) else decide (e.ax<=X) &&decide (X<e.bx)))=ix (decide (e.ay=Y) && (if s=true then decide (X<=e.ax) else decide (X<e.ax)))-ix (decide (e.b_y=Y) && (if s=true then decide (X<=e.bx) else decide (X<e.bx))):=by
   unfold Xg QF;rcases ho2 with hlt|⟨heq,hx⟩
   .have de:0<den e:=by unfold den;omega
    have nA:e.ay=Y->(X*den e<=num e Y↔X<=e.ax)/\(X*den e<num e Y↔X<e.ax):=λk=>by
     rw[<-k,xe];exact⟨⟨λq=>jmk q de,λq=>jlO q (jmw de)⟩,⟨λq=>jmm q (jmw de),λq=>jl6 q de⟩⟩
    have nB:e.b_y=Y->(X*den e<=num e Y↔X<=e.bx)/\(X*den e<num e Y↔X<e.bx):=λk=>by
     rw[<-k,Zl];exact⟨⟨λq=>jmk q de,λq=>jlO q (jmw de)⟩,⟨λq=>jmm q (jmw de),λq=>jl6 q de⟩⟩
    have hne:decide (e.ay=e.b_y)=false:=decide_eq_false Om;rw[hne];simp only[jmg];have z:ix false=0:=rfl
    rw[z];by_cases kA:e.ay=Y
    .have r1:decide (e.ay<=Y)=true:=decide_eq_true Om;have r2:decide (Y<e.b_y)=true:=decide_eq_true Om
     have r3:decide (e.ay<=Y-1)=false:=decide_eq_false Om;have r4:decide (e.b_y=Y)=false:=decide_eq_false Om
     have r5:decide (e.ay=Y)=true:=decide_eq_true kA;rw[r1,r2,r3,r4,r5];obtain⟨n1,n2⟩:=nA kA;cases s
     .simp only[jmg,jlZ,Bool.and_self,z,n2,if_neg (show¬false=true by decide)];omega
     .simp only[jmg,jlZ,Bool.and_self,z,n1,if_true];omega
    .have r5:decide (e.ay=Y)=false:=decide_eq_false kA;rw[r5];by_cases kB:e.b_y=Y
     .have r1:decide (Y<e.b_y)=false:=decide_eq_false Om;have r2:decide (e.ay<=Y-1)=true:=decide_eq_true Om
      have r3:decide (Y-1<e.b_y)=true:=decide_eq_true Om;have r4:decide (e.b_y=Y)=true:=decide_eq_true kB
      rw[r1,r2,r3,r4];obtain⟨n1,n2⟩:=nB kB;cases s
      .simp only[jmg,jlZ,jno,Bool.and_self,z,n2,if_neg (show¬false=true by decide)];omega
      .simp only[jmg,jlZ,jno,Bool.and_self,z,n1,if_true];omega
     .have r4:decide (e.b_y=Y)=false:=decide_eq_false kB;have r6:decide (e.ay<=Y)=decide (e.ay<=Y-1):=by rw[jl8,decide_eq_true_iff,decide_eq_true_iff];omega
      have r7:decide (Y<e.b_y)=decide (Y-1<e.b_y):=by rw[jl8,decide_eq_true_iff,decide_eq_true_iff];omega
      rw[r4,r6,r7];simp only[jmg,z];omega
   .have r1:∀W,(decide (e.ay<=W) &&decide (W<e.b_y))=false:=λW=>by
     by_cases k:e.ay<=W
     .rw[decide_eq_false (show¬W<e.b_y by omega),jno]
     .rw[decide_eq_false k,jmg]
    rw[r1,r1];have r2:decide (e.ay=e.b_y)=true:=decide_eq_true heq
    have r3:decide (e.b_y=Y)=decide (e.ay=Y):=by rw[heq]
    rw[r2,r3];simp only[jmg,jlZ];cases decide (e.ay=Y) with
    |false=>simp only[jmg];rfl
    |true=>
     simp only[jlZ];unfold ix;cases s<;>simp only[if_true,if_neg (show¬false=true by decide),if_neg (show¬(false=true) by decide),jlK,decide_eq_true_eq]<;>(repeat' split)<;>omega
  rw[<-main];grind
 rw[hc,Ud] at key;omega
end vertex
theorem jb7 :∀e∈K.map tw,(∃a,e.ay=2*a)/\∃b,e.b_y=2*b:=λe he=>by
 obtain⟨p,_,rfl⟩:=jlR.1 he;exact⟨⟨p.ay,rfl⟩,p.b_y,rfl⟩
theorem v6(h:Net K N){X:Int}(h0:e0∈K)(hv:(e0.ax=X/\e0.ay=Y)\/(e0.bx=X/\e0.b_y=Y))(he:e∈K)(h1:e.ay<Y)(h2:Y<e.b_y)(hn:num e Y=X*den e):False:=by
 have hne:e0≠e:=λk=>by rw[k] at hv;omega
 have hs:=h.sep e0 h0 e he hne;have de:0<den e:=by unfold den;omega
 rcases hv with⟨v1,v2⟩|⟨v1,v2⟩
 .exact hs.endA de Om Om (by rw[v1,v2];exact hn.symm)
 .exact hs.endB de Om Om (by rw[v1,v2];exact hn.symm)
def dg(g:Int->Int->Int)(K:List Leg)(N M:Leg->Int)(W:Int)(p:Leg):Int:=g (Vm K N p W+N p) (Vm K M p W+M p)-g (Vm K N p W) (Vm K M p W)
theorem PX(hN:Net K N)(hM:Net K M)(g:Int->Int->Int)(X:Int)(hW:W<=Y)(hY:∀e∈K,QF e W=true->Y<=e.b_y):
  sm (λp=>dg g K N M W p*ix (QF p W&&decide (X*den p=num p Y))) K=g (sm N (K.filter (Xg X Y W true))) (sm M (K.filter (Xg X Y W true)))-g (sm N (K.filter (Xg X Y W false))) (sm M (K.filter (Xg X Y W false))):=by
 have r1:=ray hN hM (jgu hN X true hW hY) g;have r2:=ray hN hM (jgu hN X false hW hY) g
 have e:sm (λp=>dg g K N M W p*ix (QF p W&&decide (X*den p=num p Y))) K=sm (dg g K N M W) (K.filter (Xg X Y W true))-sm (dg g K N M W) (K.filter (Xg X Y W false)):=by
  rw[MJ,MJ,<-Ud];refine JC λp _=>?_
  unfold Xg ix;cases QF p W with
  |false=>simp
  |true=>
   simp only[jlZ,if_true,decide_eq_true_eq,if_neg (show¬(false=true) by decide)];by_cases a:X*den p=num p Y
   .rw[if_pos a,if_pos Om,if_neg Om];omega
   .rw[if_neg a];by_cases b:X*den p<num p Y
    .rw[if_pos Om,if_pos b];omega
    .rw[if_neg Om,if_neg b];omega
 rw[e];unfold dg;rw[r1,r2];omega
def FR(K:List Leg)(N:Leg->Int)(X Y W:Int)(s:Bool):Int:=sm N (K.filter (Xg X Y W s))
theorem UH(h:p∈K):tw p∈K.map tw:=jlR.2 ⟨p,h,rfl⟩
theorem CM{q:Bool}(h:q=true->a=b):a*ix q=b*ix q:=by
 cases q with
 |false=>simp[ix]
 |true=>rw[h rfl]
theorem Keys.lev_out(h:Keys K E)(hp:p∈K)(hl:p.ay=p.b_y)(s:Bool){X:Int}(hX:X=if s=true then 2*p.bx else 2*p.ax):
  Qw E p=FR (K.map tw) (qd (E.map tw)) X (2*p.ay) (2*p.ay) s:=by
 have hx:p.ax<p.bx:=by have:=h.ord p hp;have:p.ay<p.b_y\/(p.ay=p.b_y/\p.ax<p.bx):=this;omega
 have hr:=x5 (K:=K.map tw) h.net.nd (λe=>if e=tw p then 0 else kk e (kS p) (QY p)) (E.map tw) (λe he=>by
   obtain⟨e0,he0,rfl⟩:=jlR.1 he;rw[z7];exact jlR.2 ⟨_,h.all e0 he0,rfl⟩)
 have e1:Qw E p=sm (λe=>sg e*(if qh e=tw p then 0 else kk (qh e) (kS p) (QY p))) (E.map tw):=by
  rw[VC];unfold Qw;refine JC λe _=>?_
  rw[z7,I5];by_cases k:qh e=p
  .rw[if_pos k,if_pos (by rw[k])];simp
  .rw[if_neg k,if_neg (λc=>k (Mg c)),<-I9 (tw e),z7,I5]
 rw[e1,hr];unfold FR;rw[<-WP];refine JC λe he=>?_
 congr 1;obtain⟨e0,he0,rfl⟩:=jlR.1 he;by_cases hep:e0=p
 .rw[if_pos (by rw[hep]),hep];have:QF (tw p) (2*p.ay)=false:=by
   cases k:QF (tw p) (2*p.ay) with
   |false=>rfl
   |true=>
    have:=(qt.1 k).2;have e2:(tw p).b_y=2*p.b_y:=rfl
    omega
  unfold Xg;rw[this];rfl
 .rw[if_neg (λc=>hep (Mg c)),PY (h.net.ord _ he)];congr 1;have hm:QY p=2*p.ay:=by unfold QY;omega
  rw[hm];unfold rgP Xg;cases ha:QF (tw e0) (2*p.ay) with
  |false=>rfl
  |true=>
   rw[jlZ,jlZ];have ha2:=qt.1 ha
   have de:0<den (tw e0):=by unfold den;omega
   have hs:=(jiH (h.sepl e0 he0 p hp hep)).lev (by show 2*p.ay=2*p.b_y;omega) de (by show _<=2*p.ay;omega) (by show 2*p.ay<=_;omega);have q1:(tw p).ay=2*p.ay:=rfl
   have q2:(tw p).ax=2*p.ax:=rfl;have q3:(tw p).bx=2*p.bx:=rfl
   rw[q1,q2,q3] at hs;have m1:2*p.ax*den (tw e0)<kS p*den (tw e0):=jl6 (by unfold kS;omega) de
   have m2:kS p*den (tw e0)<2*p.bx*den (tw e0):=jl6 (by unfold kS;omega) de;cases s with
   |true=>
    rw[if_pos rfl] at hX;rw[if_pos rfl,hX,jl8,decide_eq_true_iff,decide_eq_true_iff];omega
   |false=>
    rw[if_neg Dc] at hX;rw[if_neg Dc,hX,jl8,decide_eq_true_iff,decide_eq_true_iff];omega
theorem Keys.cover(h:Keys K E)(h0:e0∈K)(hv:lA e0=v\/lB e0=v)(s:Bool):
  FR (K.map tw) (qd (E.map tw)) (2*v.1) (2*v.2) (2*v.2) s-FR (K.map tw) (qd (E.map tw)) (2*v.1) (2*v.2) (2*v.2-1) s
   =sm (λp=>qd E p*ix (decide (p.ay=p.b_y) &&decide ((if s=true then lB p else lA p)=v))) K:=by
 unfold FR;rw[jck h.net jb7 (2*v.1) ⟨v.2,rfl⟩ s,VC];refine JC λp hp=>?_
 rw[xD];congr 1;congr 1;have q0:(tw p).b_y=2*p.b_y:=rfl
 have q1:(tw p).ay=2*p.ay:=rfl;have q2:(tw p).ax=2*p.ax:=rfl
 have q3:(tw p).bx=2*p.bx:=rfl;rw[q0,q1,q2,q3];have ho:p.ay<p.b_y\/(p.ay=p.b_y/\p.ax<p.bx):=h.ord p hp
 have main:p.ay=p.b_y->p.ay=v.2->¬(p.ax<v.1/\v.1<p.bx):=λk1 k2 k3=>by
  have hne:e0≠p:=λc=>by
   rw[c] at hv;rcases hv with c|c
   .have:=congrArg Prod.fst c;simp only[lA] at this;omega
   .have:=congrArg Prod.fst c;simp only[lB] at this;omega
  have hs:=h.sepl e0 h0 p hp hne;have ho0:e0.ay<e0.b_y\/(e0.ay=e0.b_y/\e0.ax<e0.bx):=h.ord e0 h0
  rcases hv with c|c
  .have c1:e0.ax=v.1:=congrArg Prod.fst c;have c2:e0.ay=v.2:=congrArg Prod.snd c
   rcases ho0 with d|⟨d1,d2⟩
   .have de:0<den e0:=by unfold den;omega
    have hh:=hs.lev k1 de Om Om;have e1:num e0 p.ay=e0.ax*den e0:=by rw[show p.ay=e0.ay by omega,xe]
    rw[e1] at hh;have m1:p.ax*den e0<e0.ax*den e0:=jl6 Om de
    have m2:e0.ax*den e0<p.bx*den e0:=jl6 Om de;omega
   .have hh:=hs.lev2 k1 d1 Om;omega
  .have c1:e0.bx=v.1:=congrArg Prod.fst c;have c2:e0.b_y=v.2:=congrArg Prod.snd c
   rcases ho0 with d|⟨d1,d2⟩
   .have de:0<den e0:=by unfold den;omega
    have hh:=hs.lev k1 de Om Om;have e1:num e0 p.ay=e0.bx*den e0:=by rw[show p.ay=e0.b_y by omega,Zl]
    rw[e1] at hh;have m1:p.ax*den e0<e0.bx*den e0:=jl6 Om de
    have m2:e0.bx*den e0<p.bx*den e0:=jl6 Om de;omega
   .have hh:=hs.lev2 k1 d1 Om;omega
 by_cases k1:p.ay=p.b_y
 .have d1:decide (2*p.ay=2*p.b_y)=true:=decide_eq_true Om;have d2:decide (p.ay=p.b_y)=true:=decide_eq_true k1
  rw[d1,d2,jlZ,jlZ,jl8,jlK,decide_eq_true_iff];have mm:=main k1
  cases s with
  |true=>
   simp only[if_true,jlK,decide_eq_true_eq];constructor
   .rintro⟨a1,a2,a3⟩;have:=mm Om
    exact Prod.ext (by show p.bx=v.1;omega) (by show p.b_y=v.2;omega)
   .intro c;have c1:p.bx=v.1:=congrArg Prod.fst c
    have c2:p.b_y=v.2:=congrArg Prod.snd c;omega
  |false=>
   simp only[if_neg (show¬(false=true) by decide),jlK,decide_eq_true_eq];constructor
   .rintro⟨a1,a2,a3⟩;have:=mm Om
    exact Prod.ext (by show p.ax=v.1;omega) (by show p.ay=v.2;omega)
   .intro c;have c1:p.ax=v.1:=congrArg Prod.fst c
    have c2:p.ay=v.2:=congrArg Prod.snd c;omega
 .have d1:decide (2*p.ay=2*p.b_y)=false:=decide_eq_false Om;have d2:decide (p.ay=p.b_y)=false:=decide_eq_false k1
  rw[d1,d2];rfl
theorem Keys.lev_one(h:Keys K E)(s:Bool){q:Leg}(hp:p∈K)(hq:q∈K)(lp:p.ay=p.b_y)(lq:q.ay=q.b_y)(ep:(if s=true then lB p else lA p)=v)(eq:(if s=true then lB q else lA q)=v):q=p:=by
 refine Decidable.byContradiction λhne=>?_
 have hs:=(h.sepl q hq p hp hne).lev2 lp lq;have op:p.ay<p.b_y\/(p.ay=p.b_y/\p.ax<p.bx):=h.ord p hp
 have oq:q.ay<q.b_y\/(q.ay=q.b_y/\q.ax<q.bx):=h.ord q hq;have e2:=ep.trans eq.symm
 cases s with
 |true=>
  simp only[if_true,lB,Prod.mk.injEq] at e2;have:=hs Om
  omega
 |false=>
  simp only[if_neg (show¬(false=true) by decide),lA,Prod.mk.injEq] at e2;have:=hs Om
  omega
theorem L7(hn:K.Nodup)(q:Leg->Bool)(F:Leg->Int)(hq:∀a∈K,∀b∈K,q a=true->q b=true->b=a):
  (∃p∈K,q p=true/\sm (λe=>F e*ix (q e)) K=F p)\/((∀p∈K,q p=false)/\sm (λe=>F e*ix (q e)) K=0):=by
 by_cases h:∃p∈K,q p=true
 .obtain⟨p,hp,hqp⟩:=h;refine .inl ⟨p,hp,hqp,?_⟩;rw[<-L6 hn hp F];refine JC λe he=>?_
  by_cases hpe:p=e
  .rw[if_pos hpe,<-hpe,hqp];simp[ix]
  .rw[if_neg hpe];cases k:q e with
   |false=>simp[ix]
   |true=>exact absurd (hq p hp e he hqp k).symm hpe
 .have hall:∀p∈K,q p=false:=λp hp=>by
   cases k:q p with
   |false=>rfl
   |true=>exact absurd ⟨p,hp,k⟩ h
  refine .inr ⟨hall,?_⟩;rw[<-Q0 K];refine JC λe he=>?_
  rw[hall e he];simp[ix]
def cB(E F:List Leg)(how:Int)(p:Leg):Int:=ix (QW (Q5 E p).left (Q5 F p).left how)-ix (QW (Q5 E p).right (Q5 F p).right how)
def gW(how a b:Int):Int:=ix (QW a b how)
theorem NI(hE:Keys K E)(hF:Keys K F)(h0:e0∈K)(hv:lA e0=v\/lB e0=v)(s:Bool):
  sm (λp=>cB E F how p*ix (decide (p.ay=p.b_y) &&decide ((if s=true then lB p else lA p)=v))) K
   =gW how (FR (K.map tw) (qd (E.map tw)) (2*v.1) (2*v.2) (2*v.2) s) (FR (K.map tw) (qd (F.map tw)) (2*v.1) (2*v.2) (2*v.2) s)
    -gW how (FR (K.map tw) (qd (E.map tw)) (2*v.1) (2*v.2) (2*v.2-1) s) (FR (K.map tw) (qd (F.map tw)) (2*v.1) (2*v.2) (2*v.2-1) s):=by
 have c1:=hE.cover h0 hv s;have c2:=hF.cover h0 hv s
 have one:∀a∈K,∀b∈K,(decide (a.ay=a.b_y) &&decide ((if s=true then lB a else lA a)=v))=true->(decide (b.ay=b.b_y) &&decide ((if s=true then lB b else lA b)=v))=true->b=a:=λa ha b hb qa qb=>by
  rw[jlK,decide_eq_true_iff,decide_eq_true_iff] at qa qb;exact hE.lev_one s ha hb qa.1 qb.1 qa.2 qb.2
 rcases L7 hE.nd (λp=>decide (p.ay=p.b_y) &&decide ((if s=true then lB p else lA p)=v)) (cB E F how) one with⟨p,hp,hq,e⟩|⟨hall,e⟩
 .rw[e];have n1:qd E p=sm (λp=>qd E p*ix (decide (p.ay=p.b_y) &&decide ((if s=true then lB p else lA p)=v))) K:=by
   rcases L7 hE.nd (λp=>decide (p.ay=p.b_y) &&decide ((if s=true then lB p else lA p)=v)) (qd E) one with⟨p',hp',hq',e'⟩|⟨hall,_⟩
   .rw[e',one p hp p' hp' hq hq']
   .rw[hall p hp] at hq;cases hq
  have n2:qd F p=sm (λp=>qd F p*ix (decide (p.ay=p.b_y) &&decide ((if s=true then lB p else lA p)=v))) K:=by
   rcases L7 hE.nd (λp=>decide (p.ay=p.b_y) &&decide ((if s=true then lB p else lA p)=v)) (qd F) one with⟨p',hp',hq',e'⟩|⟨hall,_⟩
   .rw[e',one p hp p' hp' hq hq']
   .rw[hall p hp] at hq;cases hq
  rw[<-n1] at c1;rw[<-n2] at c2;rw[jlK,decide_eq_true_iff,decide_eq_true_iff] at hq;obtain⟨hl,hpv⟩:=hq;have hy:p.ay=v.2:=by
   cases s with
   |true=>simp only[if_true] at hpv;have:p.b_y=v.2:=congrArg Prod.snd hpv;omega
   |false=>simp only[if_neg (show¬(false=true) by decide)] at hpv;exact congrArg Prod.snd hpv
  have hX:2*v.1=if s=true then 2*p.bx else 2*p.ax:=by
   cases s with
   |true=>simp only[if_true] at hpv⊢;have:p.bx=v.1:=congrArg Prod.fst hpv;omega
   |false=>simp only[if_neg (show¬(false=true) by decide)] at hpv⊢;have:p.ax=v.1:=congrArg Prod.fst hpv;omega
  have o1:=hE.lev_out hp hl s hX;have o2:=hF.lev_out hp hl s hX
  rw[hy] at o1 o2;unfold cB gW Q5;rw[if_pos hl,if_pos hl];show ix (QW (Qw E p) (Qw F p) how)-ix (QW (Qw E p-qd E p) (Qw F p-qd F p) how)=_
  rw[o1,o2] at*;rw[show FR (K.map tw) (qd (E.map tw)) (2*v.1) (2*v.2) (2*v.2) s-qd E p=FR (K.map tw) (qd (E.map tw)) (2*v.1) (2*v.2) (2*v.2-1) s by omega,
   show FR (K.map tw) (qd (F.map tw)) (2*v.1) (2*v.2) (2*v.2) s-qd F p=FR (K.map tw) (qd (F.map tw)) (2*v.1) (2*v.2) (2*v.2-1) s by omega]
 .rw[e];have z:∀f:Leg->Int,sm (λp=>f p*ix (decide (p.ay=p.b_y) &&decide ((if s=true then lB p else lA p)=v))) K=0:=λf=>by
   rw[<-Q0 K];refine JC λp hp=>?_
   rw[show(decide (p.ay=p.b_y) &&decide ((if s=true then lB p else lA p)=v))=false from hall p hp]
   simp[ix]
  rw[z] at c1 c2;rw[show FR (K.map tw) (qd (E.map tw)) (2*v.1) (2*v.2) (2*v.2) s=FR (K.map tw) (qd (E.map tw)) (2*v.1) (2*v.2) (2*v.2-1) s by omega,
   show FR (K.map tw) (qd (F.map tw)) (2*v.1) (2*v.2) (2*v.2) s=FR (K.map tw) (qd (F.map tw)) (2*v.1) (2*v.2) (2*v.2-1) s by omega]
  omega
def Um(v p:Pn):Int:=ix (decide (p=v))
theorem Keys.cB_dg(hE:Keys K E)(hF:Keys K F)(hp:p∈K)(ha:QF (tw p) W=true):
  cB E F how p=dg (gW how) (K.map tw) (qd (E.map tw)) (qd (F.map tw)) W (tw p):=by
 have ha2:=qt.1 ha;have e1:(tw p).ay=2*p.ay:=rfl
 have e2:(tw p).b_y=2*p.b_y:=rfl;have hl:p.ay<p.b_y:=by omega
 have hmid:QF (tw p) (QY p)=true:=qt.2 (by unfold QY;omega);unfold cB dg gW Q5;rw[if_neg Om,if_neg Om];show ix (QW (Qw E p+qd E p) (Qw F p+qd F p) how)-ix (QW (Qw E p) (Qw F p) how)=_
 rw[hE.out hp hl,hF.out hp hl,xD,xD,zR hE.net (UH hp) ha hmid,zR hF.net (UH hp) ha hmid]
theorem XP(hE:Keys K E)(hF:Keys K F)(v:Pn):sm (λl=>Um v (lA l)-Um v (lB l)) (Va K E F how)=0:=by
 unfold Va;rw[U1];have e1:sm (λp=>sm (λl=>Um v (lA l)-Um v (lB l)) (zS p (QW (Q5 E p).left (Q5 F p).left how) (QW (Q5 E p).right (Q5 F p).right how))) K=sm (λp=>cB E F how p*(Um v (lA p)-Um v (lB p))) K:=by
  refine JC λp _=>?_
  rw[jbm p _ _ _ (by show Um v (lB p)-Um v (lA p)=_;omega)];rfl
 rw[e1];by_cases hex:∃e0∈K,lA e0=v\/lB e0=v
 .obtain⟨e0,h0,hv⟩:=hex;have hv':((tw e0).ax=2*v.1/\(tw e0).ay=2*v.2)\/((tw e0).bx=2*v.1/\(tw e0).b_y=2*v.2):=by
   rcases hv with k|k
   .have k1:e0.ax=v.1:=congrArg Prod.fst k;have k2:e0.ay=v.2:=congrArg Prod.snd k
    exact .inl ⟨by show 2*e0.ax=_;omega,by show 2*e0.ay=_;omega⟩
   .have k1:e0.bx=v.1:=congrArg Prod.fst k;have k2:e0.b_y=v.2:=congrArg Prod.snd k
    exact .inr ⟨by show 2*e0.bx=_;omega,by show 2*e0.b_y=_;omega⟩
  have t1:=PX hE.net hF.net (gW how) (2*v.1) (Y:=2*v.2) (W:=2*v.2) (jna _) (λe _ ha=>by have:=qt.1 ha;omega);have t2:=PX hE.net hF.net (gW how) (2*v.1) (Y:=2*v.2) (W:=2*v.2-1) Om (λe _ ha=>by have:=qt.1 ha;omega)
  have l1:=NI (how:=how) hE hF h0 hv false;have l2:=NI (how:=how) hE hF h0 hv true
  rw[VC] at t1 t2;have parts:sm (λp=>cB E F how p*(Um v (lA p)-Um v (lB p))) K
    =sm (λp=>dg (gW how) (K.map tw) (qd (E.map tw)) (qd (F.map tw)) (2*v.2) (tw p)*ix (QF (tw p) (2*v.2) &&decide (2*v.1*den (tw p)=num (tw p) (2*v.2)))) K
    -sm (λp=>dg (gW how) (K.map tw) (qd (E.map tw)) (qd (F.map tw)) (2*v.2-1) (tw p)*ix (QF (tw p) (2*v.2-1) &&decide (2*v.1*den (tw p)=num (tw p) (2*v.2)))) K
    +sm (λp=>cB E F how p*ix (decide (p.ay=p.b_y) &&decide ((if false=true then lB p else lA p)=v))) K
    -sm (λp=>cB E F how p*ix (decide (p.ay=p.b_y) &&decide ((if true=true then lB p else lA p)=v))) K:=by
   rw[<-Ud,<-UF,<-Ud];refine JC λp hp=>?_
   have ho:p.ay<p.b_y\/(p.ay=p.b_y/\p.ax<p.bx):=hE.ord p hp;have q1:(tw p).ay=2*p.ay:=rfl
   have q2:(tw p).b_y=2*p.b_y:=rfl;have q3:(tw p).ax=2*p.ax:=rfl
   have q4:(tw p).bx=2*p.bx:=rfl;have a1:dg (gW how) (K.map tw) (qd (E.map tw)) (qd (F.map tw)) (2*v.2) (tw p)*ix (QF (tw p) (2*v.2) &&decide (2*v.1*den (tw p)=num (tw p) (2*v.2)))=cB E F how p*ix (QF (tw p) (2*v.2) &&decide (2*v.1*den (tw p)=num (tw p) (2*v.2))):=
    CM λh=>by rw[jlK] at h;exact(hE.cB_dg hF hp h.1).symm
   have a2:dg (gW how) (K.map tw) (qd (E.map tw)) (qd (F.map tw)) (2*v.2-1) (tw p)*ix (QF (tw p) (2*v.2-1) &&decide (2*v.1*den (tw p)=num (tw p) (2*v.2)))=cB E F how p*ix (QF (tw p) (2*v.2-1) &&decide (2*v.1*den (tw p)=num (tw p) (2*v.2))):=
    CM λh=>by rw[jlK] at h;exact(hE.cB_dg hF hp h.1).symm
   rw[a1,a2];have kA:Um v (lA p)=ix (QF (tw p) (2*v.2) &&decide (2*v.1*den (tw p)=num (tw p) (2*v.2)))+ix (decide (p.ay=p.b_y) &&decide ((if false=true then lB p else lA p)=v)):=by
    rw[if_neg Dc];rcases ho with hlt|⟨heq,_⟩
    .have de:0<den (tw p):=by unfold den;omega
     have d0:decide (p.ay=p.b_y)=false:=decide_eq_false Om;rw[d0,jmg];have:decide (lA p=v)=(QF (tw p) (2*v.2) &&decide (2*v.1*den (tw p)=num (tw p) (2*v.2))):=by
      rw[jl8,jlK,decide_eq_true_iff,decide_eq_true_iff,qt];constructor
      .intro k;have k1:p.ax=v.1:=congrArg Prod.fst k
       have k2:p.ay=v.2:=congrArg Prod.snd k;refine⟨by omega,?_⟩;rw[show(2*v.2:Int)=(tw p).ay by omega,xe,show(2*v.1:Int)=(tw p).ax by omega]
      .rintro⟨⟨k1,k2⟩,k3⟩;have k4:(tw p).ay=2*v.2:=by
        rcases jm7 k1 with c|c
        .exact(v6 hE.net (UH h0) hv' (UH hp) c k2 k3.symm).elim
        .exact c
       rw[<-k4,xe] at k3;have:=jnF (jnw de) k3
       exact Prod.ext (by show p.ax=v.1;omega) (by show p.ay=v.2;omega)
     unfold Um;rw[this];exact(jnr _).symm
    .have d0:decide (p.ay=p.b_y)=true:=decide_eq_true heq;have d1:QF (tw p) (2*v.2)=false:=by
      cases c:QF (tw p) (2*v.2) with
      |false=>rfl
      |true=>(have:=qt.1 c;omega)
     rw[d0,d1,jlZ,jmg];exact(Int.zero_add _).symm
   have kB:Um v (lB p)=ix (QF (tw p) (2*v.2-1) &&decide (2*v.1*den (tw p)=num (tw p) (2*v.2)))+ix (decide (p.ay=p.b_y) &&decide ((if true=true then lB p else lA p)=v)):=by
    rw[if_pos rfl];rcases ho with hlt|⟨heq,_⟩
    .have de:0<den (tw p):=by unfold den;omega
     have d0:decide (p.ay=p.b_y)=false:=decide_eq_false Om;rw[d0,jmg];have:decide (lB p=v)=(QF (tw p) (2*v.2-1) &&decide (2*v.1*den (tw p)=num (tw p) (2*v.2))):=by
      rw[jl8,jlK,decide_eq_true_iff,decide_eq_true_iff,qt];constructor
      .intro k;have k1:p.bx=v.1:=congrArg Prod.fst k
       have k2:p.b_y=v.2:=congrArg Prod.snd k;refine⟨by omega,?_⟩;rw[show(2*v.2:Int)=(tw p).b_y by omega,Zl,show(2*v.1:Int)=(tw p).bx by omega]
      .rintro⟨⟨k1,k2⟩,k3⟩;have k4:(tw p).b_y=2*v.2:=by
        rcases Int.lt_or_le (2*v.2) (tw p).b_y with c|c
        .exact(v6 hE.net (UH h0) hv' (UH hp) Om c k3.symm).elim
        .omega
       rw[<-k4,Zl] at k3;have:=jnF (jnw de) k3
       exact Prod.ext (by show p.bx=v.1;omega) (by show p.b_y=v.2;omega)
     unfold Um;rw[this];exact(jnr _).symm
    .have d0:decide (p.ay=p.b_y)=true:=decide_eq_true heq;have d1:QF (tw p) (2*v.2-1)=false:=by
      cases c:QF (tw p) (2*v.2-1) with
      |false=>rfl
      |true=>(have:=qt.1 c;omega)
     rw[d0,d1,jlZ,jmg];exact(Int.zero_add _).symm
   rw[kA,kB];generalize ix (QF (tw p) (2*v.2) &&decide (2*v.1*den (tw p)=num (tw p) (2*v.2)))=z1;generalize ix (QF (tw p) (2*v.2-1) &&decide (2*v.1*den (tw p)=num (tw p) (2*v.2)))=z2;generalize ix (decide (p.ay=p.b_y) &&decide ((if false=true then lB p else lA p)=v))=z3
   generalize ix (decide (p.ay=p.b_y) &&decide ((if true=true then lB p else lA p)=v))=z4
   generalize cB E F how p=c;grind
  rw[parts,t1,t2,l1,l2];unfold FR;omega
 .rw[<-Q0 K];refine JC λp hp=>?_
  have n1:lA p≠v:=λk=>hex ⟨p,hp,.inl k⟩
  have n2:lB p≠v:=λk=>hex ⟨p,hp,.inr k⟩
  unfold Um;rw[decide_eq_false n1,decide_eq_false n2];simp
structure Meets (e p:Leg):Prop where
 no:qC (lA e) (lB e) (lA p) (lB p)≠true
 e1:∀q,(q=lA e\/q=lB e)->uV (lA p) (lB p) q=true->q=lA p\/q=lB p
 e2:∀q,(q=lA p\/q=lB p)->uV (lA e) (lB e) q=true->q=lA e\/q=lB e
theorem tnA(p:Leg)(q:Pn):tn (lA p) (lB p) q=num p q.2-q.1*den p:=by
 show kU p.ax p.ay p.bx p.b_y q.1 q.2=_;exact jbw p q.1 q.2
theorem LR(hp:0<den p)(h1:p.ay<=Y)(h2:Y<=p.b_y)(h:num p Y=x*den p):uV (lA p) (lB p) (x,Y)=true:=by
 have ht:=tnA p (x,Y);simp only at ht;unfold uV Tc;have e0:kU (lA p).1 (lA p).2 (lB p).1 (lB p).2 x Y=0:=by
  have:kU (lA p).1 (lA p).2 (lB p).1 (lB p).2 x Y=tn (lA p) (lB p) (x,Y):=rfl;rw[this,ht,h];omega
 have hd:den p=p.b_y-p.ay:=rfl;have hx:x*den p=p.ax*den p+(p.bx-p.ax)*(Y-p.ay):=by rw[<-h];rfl
 have b1:min p.ax p.bx<=x:=by
  refine jmS.1 λhlt=>?_
  have k1:(x-p.ax)*(den p-(Y-p.ay))+(x-p.bx)*(Y-p.ay)=0:=by
   have:(x-p.ax)*(den p-(Y-p.ay))+(x-p.bx)*(Y-p.ay)=x*den p-(p.ax*den p+(p.bx-p.ax)*(Y-p.ay)):=by grind
   omega
  have m1:=jl2 (show 0<=p.ax-x-1 by omega) (show 0<=den p-(Y-p.ay) by omega);have m2:=jl2 (show 0<=p.bx-x-1 by omega) (show 0<=Y-p.ay by omega)
  have k2:(p.ax-x-1)*(den p-(Y-p.ay))+(p.bx-x-1)*(Y-p.ay)= -((x-p.ax)*(den p-(Y-p.ay))+(x-p.bx)*(Y-p.ay))-den p:=by grind
  omega
 have b2:x<=max p.ax p.bx:=by
  refine jmS.1 λhlt=>?_
  have k1:(x-p.ax)*(den p-(Y-p.ay))+(x-p.bx)*(Y-p.ay)=0:=by
   have:(x-p.ax)*(den p-(Y-p.ay))+(x-p.bx)*(Y-p.ay)=x*den p-(p.ax*den p+(p.bx-p.ax)*(Y-p.ay)):=by grind
   omega
  have m1:=jl2 (show 0<=x-p.ax-1 by omega) (show 0<=den p-(Y-p.ay) by omega);have m2:=jl2 (show 0<=x-p.bx-1 by omega) (show 0<=Y-p.ay by omega)
  have k2:(x-p.ax-1)*(den p-(Y-p.ay))+(x-p.bx-1)*(Y-p.ay)=((x-p.ax)*(den p-(Y-p.ay))+(x-p.bx)*(Y-p.ay))-den p:=by grind
  omega
 rw[e0];have c1:(lA p).1=p.ax:=rfl
 have c2:(lA p).2=p.ay:=rfl;have c3:(lB p).1=p.bx:=rfl
 have c4:(lB p).2=p.b_y:=rfl;rw[c1,c2,c3,c4];simp only[jlK,beq_iff_eq,decide_eq_true_eq];refine⟨⟨⟨⟨trivial,b1⟩,b2⟩,by omega⟩,by omega⟩
theorem Gr{a b c d:Pn}(h:(0<tn a b c/\tn a b d<0)\/(tn a b c<0/\0<tn a b d))(k:(0<tn c d a/\tn c d b<0)\/(tn c d a<0/\0<tn c d b)):qC a b c d=true:=by
 have sp:∀x:Int,0<x->wP x=1:=λx hx=>by unfold wP;rw[if_neg Om,if_pos hx]
 have sn:∀x:Int,x<0->wP x= -1:=λx hx=>by unfold wP;rw[if_pos hx]
 unfold qC;rw[jlK,decide_eq_true_iff,decide_eq_true_iff];constructor
 .rcases h with⟨h1,h2⟩|⟨h1,h2⟩
  .rw[sp _ h1,sn _ h2];decide
  .rw[sn _ h1,sp _ h2];decide
 .rcases k with⟨h1,h2⟩|⟨h1,h2⟩
  .rw[sp _ h1,sn _ h2];decide
  .rw[sn _ h1,sp _ h2];decide
theorem YY(hl:p.ay=p.b_y)(h1:p.ax<=x)(h2:x<=p.bx):uV (lA p) (lB p) (x,p.ay)=true:=by
 unfold uV Tc;have c1:(lA p).1=p.ax:=rfl
 have c2:(lA p).2=p.ay:=rfl;have c3:(lB p).1=p.bx:=rfl
 have c4:(lB p).2=p.b_y:=rfl;have e0:kU (lA p).1 (lA p).2 (lB p).1 (lB p).2 x p.ay=0:=by
  rw[c1,c2,c3,c4];unfold kU;rw[<-hl];grind
 rw[e0,c1,c2,c3,c4];simp only[jlK,beq_iff_eq,decide_eq_true_eq];refine⟨⟨⟨⟨trivial,by omega⟩,by omega⟩,by omega⟩,by omega⟩
theorem G7(h1:lA e=lA f)(h2:lB e=lB f):e=f:=by
 rcases e with⟨a1,a2,a3,a4⟩
 rcases f with⟨b1,b2,b3,b4⟩
 simp only[lA,lB,Prod.mk.injEq] at h1 h2;rw[h1.1,h1.2,h2.1,h2.2]
theorem jeb(e p:Leg):K3 e p p.ay=den p*(num e p.ay-p.ax*den e):=by unfold K3;rw[xe];grind
theorem jec(e p:Leg):K3 e p p.b_y=den p*(num e p.b_y-p.bx*den e):=by unfold K3;rw[Zl];grind
theorem Ut{d:Int}(hd:0<d):(0<d*x↔0<x)/\(d*x<0↔x<0)/\(d*x=0↔x=0):=by
 rcases jmv x 0 with h|h|h
 .have:=jnc hd h;omega
 .rw[h,jm2];omega
 .have:=jmj hd h;omega
theorem NO{c s c':Int}(h:c'=c+s*(Z-Y))(hs:0<=s)(hle:Z<=Y)(hc:c<0):c'<0:=by
 have:=jl2 hs (show 0<=Y-Z by omega);have e:s*(Z-Y)= -(s*(Y-Z)):=by grind
 omega
theorem NP{c s c':Int}(h:c'=c+s*(Z-Y))(hs:0<=s)(hle:Y<=Z)(hc:0<c):0<c':=by
 have:=jl2 hs (show 0<=Z-Y by omega);omega
theorem TT(de:0<den e)(dp:0<den p){L U:Int}(hLU:L<U)(l1:e.ay<=L)(l2:p.ay<=L)(u1:U<=e.b_y)(u2:U<=p.b_y)(h1:K3 e p L<0)(h2:0<K3 e p U):qC (lA e) (lB e) (lA p) (lB p)=true:=by
 have hs:0<=Uc e p:=by
  have l3:=Kf e p L U;rcases Int.lt_or_le (Uc e p) 0 with h|h
  .have:=jmD h (show 0<U-L by omega);omega
  .exact h
 have k1:=NO (Kf e p L e.ay) hs l1 h1;have k2:=NO (Kf e p L p.ay) hs l2 h1
 have k3:=NP (Kf e p U e.b_y) hs u1 h2;have k4:=NP (Kf e p U p.b_y) hs u2 h2
 rw[E7,(Ut de).2.1] at k1;rw[jeb,(Ut dp).2.1] at k2;rw[E8,(Ut de).1] at k3;rw[jec,(Ut dp).1] at k4;refine Gr (.inr ⟨?_,?_⟩) (.inl ⟨?_,?_⟩)<;>rw[tnA]
 .exact k2
 .exact k4
 .show 0<num p e.ay-e.ax*den p;omega
 .show num p e.b_y-e.bx*den p<0;omega
theorem Yf(a b c d:Pn):qC c d a b=qC a b c d:=by unfold qC;rw[Bool.and_comm]
theorem Meets.symm(h:Meets e p):Meets p e:=⟨by rw[Yf];exact h.no,h.e2,h.e1⟩
theorem jkq(oe:vv (lA e) (lB e))(op:vv (lA p) (lB p))(hne:e≠p)(h:Meets e p):SepE e p:=by
 have oe':e.ay<e.b_y\/(e.ay=e.b_y/\e.ax<e.bx):=oe;have op':p.ay<p.b_y\/(p.ay=p.b_y/\p.ax<p.bx):=op
 have endA:0<den p->p.ay<e.ay->e.ay<p.b_y->e.ax*den p≠num p e.ay:=λdp h1 h2 k=>by
  have:=h.e1 (e.ax,e.ay) (.inl rfl) (LR dp Om Om k.symm);rcases this with c|c
  .have:e.ay=p.ay:=congrArg Prod.snd c;omega
  .have:e.ay=p.b_y:=congrArg Prod.snd c;omega
 have endB:0<den p->p.ay<e.b_y->e.b_y<p.b_y->e.bx*den p≠num p e.b_y:=λdp h1 h2 k=>by
  have:=h.e1 (e.bx,e.b_y) (.inr rfl) (LR dp Om Om k.symm);rcases this with c|c
  .have:e.b_y=p.ay:=congrArg Prod.snd c;omega
  .have:e.b_y=p.b_y:=congrArg Prod.snd c;omega
 refine⟨λde dp hlt=>?_,endA,endB,λdp h0 h1 h2=>?_⟩
 .have hLa:e.ay<=Vy e p:=by unfold Vy;omega
  have hLb:p.ay<=Vy e p:=by unfold Vy;omega
  have hUa:wE e p<=e.b_y:=by unfold wE;omega
  have hUb:wE e p<=p.b_y:=by unfold wE;omega
  have hxe:den e=e.b_y-e.ay:=rfl;have hxp:den p=p.b_y-p.ay:=rfl
  have no1:¬(K3 e p (Vy e p)<0/\0<K3 e p (wE e p)):=λk=>h.no (TT de dp hlt hLa hLb hUa hUb k.1 k.2)
  have no2:¬(0<K3 e p (Vy e p)/\K3 e p (wE e p)<0):=λk=>by
   have:=TT dp de hlt hLb hLa hUb hUa (by rw[GT];omega) (by rw[GT];omega);rw[Yf] at this;exact h.no this
  have z1:K3 e p (Vy e p)=0->lA e=lA p:=λk=>by
   rcases Int.le_total p.ay e.ay with c|c
   .have eL:Vy e p=e.ay:=by unfold Vy;omega
    rw[eL,E7,(Ut de).2.2] at k;have:=h.e1 (e.ax,e.ay) (.inl rfl) (LR dp c Om Om)
    rcases this with q|q
    .exact q
    .have:e.ay=p.b_y:=congrArg Prod.snd q;omega
   .have eL:Vy e p=p.ay:=by unfold Vy;omega
    rw[eL,jeb,(Ut dp).2.2] at k;have:=h.e2 (p.ax,p.ay) (.inl rfl) (LR de c Om Om)
    rcases this with q|q
    .exact q.symm
    .have:p.ay=e.b_y:=congrArg Prod.snd q;omega
  have z2:K3 e p (wE e p)=0->lB e=lB p:=λk=>by
   rcases Int.le_total e.b_y p.b_y with c|c
   .have eL:wE e p=e.b_y:=by unfold wE;omega
    rw[eL,E8,(Ut de).2.2] at k;have:=h.e1 (e.bx,e.b_y) (.inr rfl) (LR dp Om c Om)
    rcases this with q|q
    .have:e.b_y=p.ay:=congrArg Prod.snd q;omega
    .exact q
   .have eL:wE e p=p.b_y:=by unfold wE;omega
    rw[eL,jec,(Ut dp).2.2] at k;have:=h.e2 (p.bx,p.b_y) (.inr rfl) (LR de Om c Om)
    rcases this with q|q
    .have:p.b_y=e.ay:=congrArg Prod.snd q;omega
    .exact q.symm
  have z3:¬(K3 e p (Vy e p)=0/\K3 e p (wE e p)=0):=λk=>hne (G7 (z1 k.1) (z2 k.2))
  omega
 .have a1:=endA dp h1 h2;have a2:=endB dp Om Om
  rw[<-h0] at a2;rcases jmv (e.ax*den p) (num p e.ay) with k1|k1|k1
  .rcases jmv (e.bx*den p) (num p e.ay) with k2|k2|k2
   .exact .inr ⟨k1,k2⟩
   .exact absurd k2 a2
   .exfalso;refine h.no (Gr (.inr ⟨?_,?_⟩) (.inl ⟨?_,?_⟩))
    .show kU e.ax e.ay e.bx e.b_y p.ax p.ay<0;unfold kU;have:=jnc (show 0<e.bx-e.ax by omega) (show p.ay-e.ay<0 by omega)
     have e0:(e.b_y-e.ay)*(p.ax-e.ax)=0:=by rw[h0];grind
     omega
    .show 0<kU e.ax e.ay e.bx e.b_y p.bx p.b_y;unfold kU;have:=jmj (show 0<e.bx-e.ax by omega) (show 0<p.b_y-e.ay by omega)
     have e0:(e.b_y-e.ay)*(p.bx-e.ax)=0:=by rw[h0];grind
     omega
    .rw[tnA];show 0<num p e.ay-e.ax*den p;omega
    .rw[tnA];show num p e.b_y-e.bx*den p<0;rw[<-h0];omega
  .exact absurd k1 a1
  .rcases jmv (e.bx*den p) (num p e.ay) with k2|k2|k2
   .exfalso;have:=jl6 (show e.ax<e.bx by omega) dp
    omega
   .exact absurd k2 a2
   .exact .inl ⟨k1,k2⟩
theorem jir(oe:vv (lA e) (lB e))(op:vv (lA p) (lB p))(hne:e≠p)(h:Meets e p):SepL e p:=by
 have oe':e.ay<e.b_y\/(e.ay=e.b_y/\e.ax<e.bx):=oe;have op':p.ay<p.b_y\/(p.ay=p.b_y/\p.ax<p.bx):=op
 constructor
 .intro hl de h1 h2;refine Decidable.byContradiction λhno=>?_
  have n1:p.ax*den e<num e p.ay:=by omega
  have n2:num e p.ay<p.bx*den e:=by omega
  rcases jm7 h1 with c1|c1
  .rcases jm7 h2 with c2|c2
   .refine h.no (Gr (.inl ⟨?_,?_⟩) (.inr ⟨?_,?_⟩))
    .rw[tnA];show 0<num e p.ay-p.ax*den e;omega
    .rw[tnA];show num e p.b_y-p.bx*den e<0;rw[<-hl];omega
    .show kU p.ax p.ay p.bx p.b_y e.ax e.ay<0;unfold kU;have:=jnc (show 0<p.bx-p.ax by omega) (show e.ay-p.ay<0 by omega)
     have e0:(p.b_y-p.ay)*(e.ax-p.ax)=0:=by rw[hl];grind
     omega
    .show 0<kU p.ax p.ay p.bx p.b_y e.bx e.b_y;unfold kU;have:=jmj (show 0<p.bx-p.ax by omega) (show 0<e.b_y-p.ay by omega)
     have e0:(p.b_y-p.ay)*(e.bx-p.ax)=0:=by rw[hl];grind
     omega
   .rw[c2,Zl] at n1 n2;have m1:=jmm n1 (jmw de)
    have m2:=jmm n2 (jmw de);have:=h.e1 (e.bx,e.b_y) (.inr rfl) (by rw[<-c2];exact YY hl Om Om)
    rcases this with q|q
    .have:e.bx=p.ax:=congrArg Prod.fst q;omega
    .have:e.bx=p.bx:=congrArg Prod.fst q;omega
  .rw[<-c1,xe] at n1 n2;have m1:=jmm n1 (jmw de)
   have m2:=jmm n2 (jmw de);have:=h.e1 (e.ax,e.ay) (.inl rfl) (by rw[c1];exact YY hl Om Om)
   rcases this with q|q
   .have:e.ax=p.ax:=congrArg Prod.fst q;omega
   .have:e.ax=p.bx:=congrArg Prod.fst q;omega
 .intro hl he hy;refine Decidable.byContradiction λhno=>?_
  have a:lA e=lA p:=by
   rcases Int.le_total p.ax e.ax with c|c
   .have:=h.e1 (e.ax,e.ay) (.inl rfl) (by rw[hy];exact YY hl c Om);rcases this with q|q
    .exact q
    .have:e.ax=p.bx:=congrArg Prod.fst q;omega
   .have:=h.e2 (p.ax,p.ay) (.inl rfl) (by rw[<-hy];exact YY he c Om);rcases this with q|q
    .exact q.symm
    .have:p.ax=e.bx:=congrArg Prod.fst q;omega
  have b:lB e=lB p:=by
   rcases Int.le_total e.bx p.bx with c|c
   .have:=h.e1 (e.bx,e.b_y) (.inr rfl) (by rw[<-he,hy];exact YY hl Om c);rcases this with q|q
    .have:e.bx=p.ax:=congrArg Prod.fst q;omega
    .exact q
   .have:=h.e2 (p.bx,p.b_y) (.inr rfl) (by rw[<-hl,<-hy];exact YY he Om c);rcases this with q|q
    .have:p.bx=e.ax:=congrArg Prod.fst q;omega
    .exact q.symm
  exact hne (G7 a b)
theorem jbt{α:Type}[DecidableEq α](lt:α->α->Bool)(N M X:α->Int)(g:Int->Int->Int)(hg:∀a b,0<=g a b)(h0:g 0 0=0):∀(n:Nat) (R:List α) (x0:Int),R.length=n->R.Nodup->
  (∀a∈R,∀b∈R,a≠b->lt a b=true\/lt b a=true)->(∀a∈R,∀b∈R,∀c∈R,lt a b=true->lt b c=true->lt a c=true)->(∀a∈R,lt a a=false)->
  (∀a∈R,∀b∈R,lt a b=true->X a<=X b)->(∀a∈R,x0<=X a)->
  g (sm N R) (sm M R)*x0<=sm (λp=>(g (Vq lt N R p+N p) (Vq lt M R p+M p)-g (Vq lt N R p) (Vq lt M R p))*X p) R
 |0,R,x0,hl,_,_,_,_,_,_=>by
  obtain rfl:=List.length_eq_zero_iff.1 hl;simp only[sm,h0,jmz];exact jna _
 |n+1,R,x0,hl,hn,ht,hr,hi,hX,hx0=>by
  obtain⟨m,hm,hmin⟩:=LD (λa b=>lt a b=true) R (by intro h;rw[h] at hl;simp at hl) ht hr;have hp:R.Perm (m::R.erase m):=List.perm_cons_erase hm
  have hsub:∀x∈R.erase m,x∈R:=λx hx=>List.mem_of_mem_erase hx
  have hnm:∀x∈R.erase m,x≠m:=λx hx e=>by
   rw[e] at hx;exact(List.Nodup.not_mem_erase hn) hx
  have hasym:∀x∈R.erase m,lt x m=false:=λx hx=>by
   cases h:lt x m with
   |false=>rfl
   |true=>
    have:=hr m hm x (hsub x hx) m hm (hmin x (hsub x hx) (hnm x hx)) h;rw[hi m hm] at this;cases this
  have key:∀(N:α->Int) (p:α),Vq lt N R p=(if lt p m=true then N m else 0)+Vq lt N (R.erase m) p:=λN p=>by
   unfold Vq;rw[uj _ hp];rfl
  have k1:∀(N:α->Int),Vq lt N R m=sm N (R.erase m):=λN=>by
   rw[key,hi m hm];have:Vq lt N (R.erase m) m=sm N (R.erase m):=JC λx hx=>if_pos (hmin x (hsub x hx) (hnm x hx))
   rw[this];simp
  have k2:∀(N:α->Int),∀p∈R.erase m,Vq lt N R p=Vq lt N (R.erase m) p:=λN p hx=>by
   rw[key,hasym p hx];simp
  have ih:=jbt lt N M X g hg h0 n (R.erase m) (X m) (by rw[List.length_erase_of_mem hm,hl];rfl) (hn.erase m) (λa ha b hb=>ht a (hsub a ha) b (hsub b hb)) (λa ha b hb c hc=>hr a (hsub a ha) b (hsub b hb) c (hsub c hc)) (λa ha=>hi a (hsub a ha)) (λa ha b hb=>hX a (hsub a ha) b (hsub b hb)) (λa ha=>hX m hm a (hsub a ha) (hmin a (hsub a ha) (hnm a ha)));rw[uj N hp,uj M hp,uj (λp=>(g (Vq lt N R p+N p) (Vq lt M R p+M p)-g (Vq lt N R p) (Vq lt M R p))*X p) hp];simp only[sm];rw[JC (l:=R.erase m) (f:=λp=>(g (Vq lt N R p+N p) (Vq lt M R p+M p)-g (Vq lt N R p) (Vq lt M R p))*X p) (g:=λp=>(g (Vq lt N (R.erase m) p+N p) (Vq lt M (R.erase m) p+M p)-g (Vq lt N (R.erase m) p) (Vq lt M (R.erase m) p))*X p) (λp hx=>by rw[k2 N p hx,k2 M p hx]),k1 N,k1 M];rw[Int.add_comm (sm N (R.erase m)) (N m),Int.add_comm (sm M (R.erase m)) (M m)];have e1:(g (N m+sm N (R.erase m)) (M m+sm M (R.erase m))-g (sm N (R.erase m)) (sm M (R.erase m)))*X m=g (N m+sm N (R.erase m)) (M m+sm M (R.erase m))*X m-g (sm N (R.erase m)) (sm M (R.erase m))*X m:=by grind
  have e2:g (N m+sm N (R.erase m)) (M m+sm M (R.erase m))*x0<=g (N m+sm N (R.erase m)) (M m+sm M (R.erase m))*X m:=jmr (hx0 m hm) (hg _ _);omega
theorem jeP{α:Type}(X:α->Int):∀R:List α,∃x0,∀a∈R,x0<=X a
 |[]=>⟨0,λ_ h=>by cases h⟩
 |a::l=>by
  obtain⟨x0,h⟩:=jeP X l;refine⟨min x0 (X a),λb hb=>?_⟩;rcases jlP.1 hb with k|k
  .rw[k];omega
  .have:=h b k;omega
theorem CV(hN:Net K N)(hM:Net K M)(g:Int->Int->Int)(hg:∀a b,0<=g a b)(h0:g 0 0=0)(X:Leg->Int)(hX:∀e∈K,∀p∈K,QF e Y=true->QF p Y=true->num p Y*den e<=num e Y*den p->X p<=X e):
  0<=sm (λp=>dg g K N M Y p*ix (QF p Y)*X p) K:=by
 have hu:UpR K (K.filter λe=>QF e Y) Y:=⟨λe he=>jmx.1 he,hN.nd.filter _,λp _ e he ha _=>jmx.2 ⟨he,ha⟩⟩;have hz:∀{N:Leg->Int},Net K N->sm N (K.filter λe=>QF e Y)=0:=λ{N} h=>by
  rw[<-WP,<-h.close (λ_ y=>ix (decide (y<=Y)))];refine JC λe he=>?_
  have:=Dk (h.ord e he);congr 1;unfold QF ix;by_cases a:e.ay<=Y
  .rw[decide_eq_true a,jlZ];by_cases b:e.b_y<=Y
   .rw[decide_eq_true b,decide_eq_false (show¬Y<e.b_y by omega)];rfl
   .rw[decide_eq_false b,decide_eq_true (show Y<e.b_y by omega)];rfl
  .rw[decide_eq_false a,decide_eq_false (show¬e.b_y<=Y by omega)];rfl
 have hd:∀e∈K.filter (λe=>QF e Y),0<den e:=λe he=>by have:=qt.1 (hu.sub e he).2;unfold den;omega
 have hs:∀a∈K.filter (λe=>QF e Y),∀b∈K.filter (λe=>QF e Y),a≠b->SepE a b:=λa ha b hb hn=>hN.sep a (hu.sub a ha).1 b (hu.sub b hb).1 hn
 obtain⟨x0,hx0⟩:=jeP X (K.filter λe=>QF e Y);have ht:=jbt (λp e=>wV e p) N M X g hg h0 (K.filter λe=>QF e Y).length (K.filter λe=>QF e Y) x0 rfl hu.nd
  (λa ha b hb hn=>(Sy (hs b hb a ha (Ne.symm hn)) (hu.sub b hb).2 (hu.sub a ha).2))
  (λa ha b hb c hc h1 h2=>by
   by_cases hab:b=a
   .subst hab;exact h2
   .by_cases hbc:c=b
    .subst hbc;exact h1
    .have r1:=(uf (hs b hb a ha hab) (hu.sub b hb).2 (hu.sub a ha).2).1 h1;have r2:=(uf (hs c hc b hb hbc) (hu.sub c hc).2 (hu.sub b hb).2).1 h2
     have r3:=x6 (hd c hc) (hd b hb) (hd a ha) r2 r1;by_cases hac:c=a
     .subst hac;exfalso;have z1:K3 c c Y=0:=by unfold K3;omega
      have z2:Uc c c=0:=by unfold Uc;omega
      unfold Ej at r3;omega
     .exact(uf (hs c hc a ha hac) (hu.sub c hc).2 (hu.sub a ha).2).2 r3)
  (λa _=>UC a)
  (λa ha b hb h1=>by
   by_cases hab:b=a
   .rw[hab];exact jna _
   .have r1:=(uf (hs b hb a ha hab) (hu.sub b hb).2 (hu.sub a ha).2).1 h1;refine hX b (hu.sub b hb).1 a (hu.sub a ha).1 (hu.sub b hb).2 (hu.sub a ha).2 ?_;have:0<=K3 b a Y:=by unfold Ej at r1;omega
    unfold K3 at this;omega) hx0
 rw[hz hN,hz hM,h0,jmz,MJ] at ht;refine jmN ht (jns ?_);refine JC λp hp=>?_
 by_cases ha:QF p Y=true
 .have hm:p∈K.filter (λe=>QF e Y):=jmx.2 ⟨hp,ha⟩;rw[if_pos ha,HH hN hu hm,HH hM hu hm,ha];unfold dg ix;simp
 .have:QF p Y=false:=by simpa using ha
  rw[if_neg ha,this];simp[ix]
def vp:List Leg->Int
 |[]=>1
 |e::l=>(if 0<den e then den e else 1)*vp l
theorem xZ:∀l:List Leg,0<vp l
 |[]=>by decide
 |e::l=>by
  unfold vp;refine jmj ?_ (xZ l);split
  .assumption
  .decide
theorem U8:∀{l:List Leg} {e:Leg},e∈l->0<den e->∃c,vp l=den e*c
 |[],_,h,_=>by cases h
 |a::l,e,h,hd=>by
  rcases jlP.1 h with k|k
  .subst k;exact⟨vp l,by show(if 0<den e then den e else 1)*vp l=_;rw[if_pos hd]⟩
  .obtain⟨c,hc⟩:=U8 k hd;exact⟨(if 0<den a then den a else 1)*c,by show(if 0<den a then den a else 1)*vp l=_;rw[hc];grind⟩
def P7(D:Int)(Y:Int)(e:Leg):Int:=num e Y*(D/den e)
theorem jgC(he:e∈K)(hp:p∈K)(de:0<den e)(dp:0<den p)(h:num p Y*den e<=num e Y*den p):P7 (vp K) Y p<=P7 (vp K) Y e:=by
 obtain⟨c,hc⟩:=U8 he de;obtain⟨d,hd⟩:=U8 hp dp;have hD:=xZ K
 have e1:vp K/den e=c:=by rw[hc];exact jnv _ (jnw de)
 have e2:vp K/den p=d:=by rw[hd];exact jnv _ (jnw dp)
 unfold P7;rw[e1,e2];have c0:0<c:=vT de (by rw[jmn];omega)
 have d0:0<d:=vT dp (by rw[jmn];omega);have hcd:den e*c=den p*d:=by rw[<-hc,hd]
 have h1:=jlO h (show 0<=c*d from jmw (jmj c0 d0));have h2:num p Y*den e*(c*d)=num p Y*d*(den e*c):=by grind
 have h3:num e Y*den p*(c*d)=num e Y*c*(den p*d):=by grind
 rw[h2,h3,<-hcd] at h1;exact jmk h1 (by rw[<-hc];exact hD)
theorem HS{α β:Type}(f:α->β->Int):∀(l:List α) (m:List β),sm (λa=>sm (λb=>f a b) m) l=sm (λb=>sm (λa=>f a b) l) m
 |[],m=>by simp only[sm];exact(Q0 m).symm
 |a::l,m=>by
  simp only[sm];rw[HS f l m,UF]
theorem L5{α:Type}{f:α->Int}:∀{l:List α},(∀x∈l,0<=f x)->0<=sm f l
 |[],_=>jna _
 |x::l,h=>by
  have h1:=h x (by simp);have h2:=L5 (l:=l) λy hy=>h y (jlQ _ hy)
  simp only[sm];omega
theorem E9:∀B:List Leg,∃V:List Pn,V.Nodup/\∀l∈B,lA l∈V/\lB l∈V
 |[]=>⟨[],List.nodup_nil,λ_ h=>by cases h⟩
 |b::B=>by
  obtain⟨V,hn,h⟩:=E9 B;have ins:∀(V:List Pn) (p:Pn),V.Nodup->∃W:List Pn,W.Nodup/\p∈W/\∀x∈V,x∈W:=λV p hV=>by
   by_cases hp:p∈V
   .exact⟨V,hV,hp,λx hx=>hx⟩
   .exact⟨p::V,jmY.2 ⟨hp,hV⟩,by simp,λx hx=>jlQ _ hx⟩
  obtain⟨V1,n1,m1,s1⟩:=ins V (lA b) hn;obtain⟨V2,n2,m2,s2⟩:=ins V1 (lB b) n1;refine⟨V2,n2,λl hl=>?_⟩;rcases jlP.1 hl with k|k
  .rw[k];exact⟨s2 _ m1,m2⟩
  .exact⟨s2 _ (s1 _ (h l k).1),s2 _ (s1 _ (h l k).2)⟩
theorem Bn(hc:∀v,sm (λl=>Um v (lA l)-Um v (lB l)) B=0)(f:Pn->Int):sm (λl=>f (lA l)-f (lB l)) B=0:=by
 obtain⟨V,hn,hV⟩:=E9 B;have hf:∀p∈V,f p=sm (λv=>f v*Um v p) V:=λp hp=>by
  rw[<-L6 hn hp f];refine JC λv _=>?_
  unfold Um ix;by_cases h:p=v
  .rw[if_pos h,if_pos (decide_eq_true h)];omega
  .rw[if_neg h,if_neg (by simpa using h)];omega
 have e1:sm (λl=>f (lA l)-f (lB l)) B=sm (λl=>sm (λv=>f v*(Um v (lA l)-Um v (lB l))) V) B:=by
  refine JC λl hl=>?_
  rw[hf _ (hV l hl).1,hf _ (hV l hl).2,<-Ud];refine JC λv _=>?_
  grind
 have mulL:∀(c:Int) (g:Leg->Int) (l:List Leg),sm (λx=>c*g x) l=c*sm g l:=λc g l=>by
  induction l with
  |nil=>simp[sm]
  |cons a l ih=>simp only[sm,ih];grind
 rw[e1,HS,<-Q0 V];refine JC λv _=>?_
 rw[mulL,hc v,jm2]
def Xi(a b:Pn):Int:=a.1*b.2-a.2*b.1
def HZ(l:Leg):Int:=(l.ax+l.bx)*(l.b_y-l.ay)
theorem jd6(hc:∀v,sm (λl=>Um v (lA l)-Um v (lB l)) B=0):sm (λl=>Xi (lA l) (lB l)) B=sm HZ B:=by
 have h:=Bn hc (λp=>p.1*p.2);have e:sm (λl=>Xi (lA l) (lB l)) B=sm (λl=>HZ l+((lA l).1*(lA l).2-(lB l).1*(lB l).2)) B:=JC λl _=>by
  simp only[Xi,HZ,lA,lB];grind
 rw[e,UF,h,jnr]
def lvM(M:Nat):List Int:=(List.range (2*M)).map λ(i:Nat)=>2*(i:Int)-2*(M:Int)+1
theorem jhS(p:Leg)(j:Int):num (tw p) (2*p.ay+2*j+1)=4*p.ax*den p+2*(p.bx-p.ax)*(2*j+1):=by
 have q1:(tw p).ay=2*p.ay:=rfl;have q2:(tw p).ax=2*p.ax:=rfl
 have q3:(tw p).bx=2*p.bx:=rfl;unfold num;rw[vV,q1,q2,q3];grind
theorem jjS{M:Nat}(h1: -(M:Int)<=p.ay)(h2:p.ay<=p.b_y)(h3:p.b_y<=M):sm (λY=>ix (QF (tw p) Y)*num (tw p) Y) (lvM M)=HZ p*(2*den p):=by
 have hd:den p=p.b_y-p.ay:=rfl;have key:∀n:Nat,sm (λ(i:Nat)=>ix (QF (tw p) (2*(i:Int)-2*(M:Int)+1))*num (tw p) (2*(i:Int)-2*(M:Int)+1)) (List.range n)
   =(λj:Int=>4*p.ax*den p*j+2*(p.bx-p.ax)*(j*j)) (if(n:Int)<=M+p.ay then 0 else if(n:Int)<=M+p.b_y then(n:Int)-M-p.ay else den p):=λn=>by
  induction n with
  |zero=>
   rw[if_pos Om];simp[sm]
  |succ n ih=>
   rw[jm3,Qz,ih];simp only[sm,jnr];have q1:(tw p).ay=2*p.ay:=rfl
   have q4:(tw p).b_y=2*p.b_y:=rfl;have ha:QF (tw p) (2*(n:Int)-2*(M:Int)+1)=true↔p.ay<=(n:Int)-M/\(n:Int)-M<p.b_y:=by
    rw[qt,q1,q4];omega
   by_cases c1:((n+1:Nat):Int)<=M+p.ay
   .rw[if_pos Om,if_pos c1];have:QF (tw p) (2*(n:Int)-2*(M:Int)+1)=false:=by
     cases k:QF (tw p) (2*(n:Int)-2*(M:Int)+1) with
     |false=>rfl
     |true=>(have:=ha.1 k;omega)
    rw[this];simp[ix]
   .rw[if_neg c1];by_cases c2:((n+1:Nat):Int)<=M+p.b_y
    .rw[if_pos c2,ha.2 Om];have e0:(if(n:Int)<=M+p.ay then(0:Int) else if(n:Int)<=M+p.b_y then(n:Int)-M-p.ay else den p)=(n:Int)-M-p.ay:=by
      split
      .omega
      .rw[if_pos Om]
     rw[e0];obtain⟨j,hj⟩:∃j:Int,j=(n:Int)-M-p.ay:=⟨_,rfl⟩;have e1:(2*(n:Int)-2*(M:Int)+1)=2*p.ay+2*j+1:=by omega
     have e2:((n+1:Nat):Int)-M-p.ay=j+1:=by omega
     rw[e1,e2,<-hj,jhS];have:ix true=1:=rfl
     rw[this];grind
    .rw[if_neg c2];have e0:(if(n:Int)<=M+p.ay then(0:Int) else if(n:Int)<=M+p.b_y then(n:Int)-M-p.ay else den p)=den p:=by
      split
      .omega
      .split
       .omega
       .rfl
     have:QF (tw p) (2*(n:Int)-2*(M:Int)+1)=false:=by
      cases k:QF (tw p) (2*(n:Int)-2*(M:Int)+1) with
      |false=>rfl
      |true=>(have:=ha.1 k;omega)
     rw[e0,this];simp[ix]
 unfold lvM;rw[VC,key];have e0:(if((2*M:Nat):Int)<=M+p.ay then(0:Int) else if((2*M:Nat):Int)<=M+p.b_y then((2*M:Nat):Int)-M-p.ay else den p)=den p:=by
  split
  .omega
  .split
   .omega
   .rfl
 rw[e0];unfold HZ;rw[<-hd];grind
theorem SH(c:Int)(g:α->Int)(l:List α):sm (λx=>c*g x) l=c*sm g l:=by
 induction l with
 |nil=>simp[sm]
 |cons a l ih=>simp only[sm,ih];grind
theorem Ee{a b c d:Pn}(h:wO a b c d=true)(hn:¬((a=c/\b=d)\/(a=d/\b=c))):
  qC a b c d≠true/\∀q,q∈QE a b c d->(q=a\/q=b)/\(q=c\/q=d):=by
 have h01:Qi a b c d=0\/(Qi a b c d=1/\(a=c\/a=d\/b=c\/b=d)):=by
  by_cases ap:vQ a b c d=true
  .exact .inl (XL ap)
  .unfold wO at h;rw[if_neg ap] at h;rcases NV a b c d with e|e|e|e<;>rw[e] at h
   .exact .inl e
   .refine .inr ⟨e,?_⟩;rw[if_neg Dc,if_pos rfl] at h;simp only[ne_eq,decide_not,jmo,jnn,Bool.not_eq_false',decide_eq_true_eq] at h;rcases h with((h|h)|h)|h
    .exact .inl h
    .exact .inr (.inl h)
    .exact .inr (.inr (.inl h))
    .exact .inr (.inr (.inr h))
   .rw[if_pos rfl] at h;cases h
   .rw[if_neg Dc,if_neg Dc,if_pos rfl] at h;exact absurd (by simpa using h) hn
 rcases h01 with e|⟨e,hs⟩
 .have hl:(QE a b c d).length=0:=by
   unfold Qi at e;by_cases hl:(QE a b c d).length=0
   .exact hl
   .rw[if_neg hl] at e;split at e<;>cases e
  refine⟨λk=>?_,λq hq=>?_⟩
  .unfold Qi at e;rw[if_pos hl,if_pos k] at e;cases e
  .rw[List.length_eq_zero_iff.1 hl] at hq;cases hq
 .have hl:(QE a b c d).length=1:=by
   unfold Qi at e;by_cases h0:(QE a b c d).length=0
   .rw[if_pos h0] at e;split at e<;>cases e
   .rw[if_neg h0] at e;by_cases h1:(QE a b c d).length=1
    .exact h1
    .rw[if_neg h1] at e;cases e
  have hv:∃v,v∈QE a b c d/\(v=a\/v=b)/\(v=c\/v=d):=by
   rcases hs with k|k|k|k
   .exact⟨a,q7.2 ⟨.inl rfl,by rw[Kb,Ul,k,Ul];rfl⟩,.inl rfl,.inl k⟩
   .exact⟨a,q7.2 ⟨.inl rfl,by rw[Kb,Ul,k,UX];rfl⟩,.inl rfl,.inr k⟩
   .exact⟨b,q7.2 ⟨.inr (.inl rfl),by rw[Kb,UX,k,Ul];rfl⟩,.inr rfl,.inl k⟩
   .exact⟨b,q7.2 ⟨.inr (.inl rfl),by rw[Kb,UX,k,UX];rfl⟩,.inr rfl,.inr k⟩
  obtain⟨v,hm,hab,hcd⟩:=hv;obtain⟨x,hx⟩:=List.length_eq_one_iff.1 hl;have hvx:v=x:=by rw[hx] at hm;simpa using hm
  refine⟨λk=>?_,λq hq=>?_⟩
  .have z:∀p q:Pn,tn p q p=0/\tn p q q=0:=λp q=>by unfold tn kU;constructor<;>grind
   unfold qC at k;simp only[jlK,decide_eq_true_eq] at k;have k1:=k.1
   have s0:wP 0=0:=rfl;rcases hab with e1|e1<;>rcases hcd with e2|e2
   .rw[<-e2,e1,(z a b).1,s0,jmz] at k1;omega
   .rw[<-e2,e1,(z a b).1,s0,jm2] at k1;omega
   .rw[<-e2,e1,(z a b).2,s0,jmz] at k1;omega
   .rw[<-e2,e1,(z a b).2,s0,jm2] at k1;omega
  .have:q=v:=by rw[hx] at hq;rw[hvx];simpa using hq
   rw[this];exact⟨hab,hcd⟩
theorem C6(e:Leg):qh e=e\/qh e=qW e:=by unfold qh;split<;>simp
theorem Ed(h:wO (lA e) (lB e) (lA f) (lB f)=true)(hn:¬((lA e=lA f/\lB e=lB f)\/(lA e=lB f/\lB e=lA f))):Meets e f:=by
 obtain⟨h1,h2⟩:=Ee h hn;have on1:=Ul;have on2':=UX
 refine⟨h1,λq hq ho=>(h2 q (q7.2 ⟨hq.elim .inl λk=>.inr (.inl k),?_⟩)).2,λq hq ho=>(h2 q (q7.2 ⟨.inr (.inr hq),?_⟩)).1⟩
 .unfold Kb;rw[ho];rcases hq with k|k<;>rw[k]
  .rw[on1];rfl
  .rw[on2'];rfl
 .unfold Kb;rw[ho];rcases hq with k|k<;>rw[k]
  .rw[on1];rfl
  .rw[on2'];rfl
theorem DN(a b c:Pn):tn b a c= -tn a b c:=by unfold tn kU;grind
theorem PJ(n:Int):wP (-n)= -wP n:=by unfold wP;split<;>split<;>(try split)<;>omega
theorem xB(a b c d:Pn):qC b a c d=qC a b c d:=by
 unfold qC;rw[DN a b,DN a b,PJ,PJ,Int.neg_mul_neg,jmn (wP (tn c d b))]
theorem Si(a b p:Pn):uV b a p=uV a b p:=by
 have h:tn b a p=0↔tn a b p=0:=by rw[DN a b];omega
 unfold uV Tc;have hb:(kU b.1 b.2 a.1 a.2 p.1 p.2==0)=(kU a.1 a.2 b.1 b.2 p.1 p.2==0):=by
  have:(tn b a p==0)=(tn a b p==0):=by
   by_cases k:tn a b p=0
   .rw[k,h.2 k]
   .rw[beq_eq_false_iff_ne.2 k,beq_eq_false_iff_ne.2 λz=>k (h.1 z)]
  exact this
 rw[hb,jnu b.1,jnt b.1,jnu b.2,jnt b.2]
theorem Meets.rev(h:Meets e f):Meets (qW e) f:=
 ⟨by have:=h.no;rw[<-xB] at this;exact this,λq hq=>h.e1 q hq.symm,λq hq ho=>(h.e2 q hq (by rw[<-Si];exact ho)).symm⟩
theorem Meets.nrm'(h:Meets e f):Meets (qh e) (qh f):=by
 have h1:Meets (qh e) f:=by
  rcases C6 e with k|k<;>rw[k]
  .exact h
  .exact h.rev
 rcases C6 f with k|k<;>rw[k]
 .exact h1
 .exact h1.symm.rev.symm
theorem jhO(he:lA e≠lB e)(hn:qh e≠qh f):¬((lA e=lA f/\lB e=lB f)\/(lA e=lB f/\lB e=lA f)):=by
 rintro(⟨h1,h2⟩|⟨h1,h2⟩)
 .exact hn (by rw[show e=f from UW h1 h2])
 .have:f=qW e:=UW h2.symm h1.symm;exact hn (by rw[this,zJ he])
theorem jhX(he:lA e≠lB e):vv (lA (qh e)) (lB (qh e)):=by
 unfold qh;split
 .rename_i h;exact h
 .rename_i h;simp only[vv] at h⊢;have:(lA e).1≠(lB e).1\/(lA e).2≠(lB e).2:=by
   by_cases k:(lA e).1=(lB e).1
   .exact .inr λz=>he (Prod.ext k z)
   .exact .inl k
  omega
theorem RL(hn:K.Nodup)(hm:∀q,q∈K↔∃e∈F,q=qh e)(hne:∀l∈F,lA l≠lB l)(hP:Yz F)(hs:∀e∈E,e∈F)(hc:∀f:Int->Int->Int,sm (λe:Leg=>f e.ax e.ay-f e.bx e.b_y) E=0):Keys K E:=by
 have ho:∀p∈K,vv (lA p) (lB p):=λp hp=>by
  obtain⟨e,he,rfl⟩:=(hm p).1 hp;exact jhX (hne e he)
 have hme:∀e∈K,∀p∈K,e≠p->Meets e p:=λe he p hp h=>by
  obtain⟨x,hx,rfl⟩:=(hm e).1 he;obtain⟨y,hy,rfl⟩:=(hm p).1 hp;exact(Ed (hP x hx y hy) (jhO (hne x hx) h)).nrm'
 exact⟨hn,ho,λe he p hp h=>jkq (ho e he) (ho p hp) h (hme e he p hp h),λe he p hp h=>jir (ho e he) (ho p hp) h (hme e he p hp h),λe he=>(hm _).2 ⟨e,hs e he,rfl⟩,hc⟩
theorem x7 :Vm K N p Y=sm N (K.filter λe=>QF e Y&&wV e p):=by
 unfold Vm;rw[<-WP];refine JC λe _=>?_
 by_cases hep:e=p
 .rw[if_pos hep,hep,UC,jno];simp[ix]
 .rw[if_neg hep]
theorem jgv(h:Net K N)(hp:p∈K)(ha:QF p Y=true):UpR K (K.filter λe=>QF e Y&&wV e p) Y where
 sub:=λe he=>by
  have:=jmx.1 he;rw[jlK] at this;exact⟨this.1,this.2.1⟩
 nd:=h.nd.filter _
 all:=λq hq e he hea hr=>by
  have hq':=jmx.1 hq;rw[jlK] at hq';obtain⟨hqK,hqa,hqr⟩:=hq';refine jmx.2 ⟨he,?_⟩;rw[hea,jlZ];have d1:0<den e:=by have:=qt.1 hea;unfold den;omega
  have d2:0<den q:=by have:=qt.1 hqa;unfold den;omega
  have d3:0<den p:=by have:=qt.1 ha;unfold den;omega
  have nqp:q≠p:=λk=>by rw[k,UC] at hqr;cases hqr
  have neq':e≠q:=λk=>by rw[k,UC] at hr;cases hr
  have r1:=(uf (h.sep q hqK p hp nqp) hqa ha).1 hqr;have r2:=(uf (h.sep e he q hqK neq') hea hqa).1 hr
  have r3:=x6 d1 d2 d3 r2 r1;by_cases k:e=p
  .exfalso;rw[k] at r3;have z1:K3 p p Y=0:=by unfold K3;omega
   have z2:Uc p p=0:=by unfold Uc;omega
   unfold Ej at r3;omega
  .exact(uf (h.sep e he p hp k) hea ha).2 r3
theorem Dy{l:Leg}{a b:Bool}(h:l∈zS p a b):l=p\/l=qW p:=by
 unfold zS at h;split at h
 .exact .inl (jlM.1 h)
 .split at h
  .exact .inr (jlM.1 h)
  .cases h
theorem YT(h:vv (lA p) (lB p)):qh p=p/\qh (qW p)=p/\sg p=1/\sg (qW p)= -1:=by
 have h':(lA p).2<(lB p).2\/((lA p).2=(lB p).2/\(lA p).1<(lB p).1):=h;have n1:¬vv (lB p) (lA p):=λk=>by
  have k':(lB p).2<(lA p).2\/((lB p).2=(lA p).2/\(lB p).1<(lA p).1):=k;omega
 have n2:vv (lB (qW p)) (lA (qW p)):=h;refine⟨by unfold qh;rw[if_neg n1],by unfold qh;rw[if_pos n2];rfl,by unfold sg;rw[if_neg n1],by unfold sg;rw[if_pos n2]⟩
theorem Cg{l:Leg}(h:l∈Va K E F how):∃p∈K,l∈zS p (QW (Q5 E p).left (Q5 F p).left how) (QW (Q5 E p).right (Q5 F p).right how):=jm8.1 h
theorem Keys.brd(hE:Keys K E)(hF:Keys K F):Keys K (Va K E F how):=
 ⟨hE.nd,hE.ord,hE.sep,hE.sepl,λe he=>by
  obtain⟨p,hp,hl⟩:=Cg he;have:=YT (hE.ord p hp)
  rcases Dy hl with k|k<;>rw[k]
  .rw[this.1];exact hp
  .rw[this.2.1];exact hp,λf=>Bn (XP hE hF) λp=>f p.1 p.2⟩
theorem jaK(hE:Keys K E)(hp:p∈K):qd (Va K E F how) p=cB E F how p:=by
 unfold qd Va;rw[U1,<-L6 hE.nd hp (cB E F how)];refine JC λq hq=>?_
 obtain⟨n1,n2,n3,n4⟩:=YT (hE.ord q hq);rw[jbm q _ _ (λe=>if qh e=p then sg e else 0) (by show(if qh (qW q)=p then sg (qW q) else 0)= -(if qh q=p then sg q else 0);rw[n1,n2,n3,n4];split<;>rfl)]
 show(ix _-ix _)*(if qh q=p then sg q else 0)=_
 rw[n1,n3];by_cases k:p=q
 .rw[if_pos k,if_pos k.symm];unfold cB;omega
 .rw[if_neg k,if_neg (Ne.symm k),jm2]
theorem ja0(hE:Keys K E)(hF:Keys K F)(hu:UpR (K.map tw) R Y):
  sm (qd ((Va K E F how).map tw)) R=gW how (sm (qd (E.map tw)) R) (sm (qd (F.map tw)) R):=by
 have h:=ray hE.net hF.net hu (gW how);rw[show gW how 0 0=0 by unfold gW;rw[jcc];rfl,Int.sub_zero] at h;rw[<-h];refine JC λe he=>?_
 obtain⟨hek,hea⟩:=hu.sub e he;obtain⟨q,hq,rfl⟩:=jlR.1 hek;rw[xD,jaK hE hq];exact hE.cB_dg hF hq hea
theorem FY(hE:Keys K E)(hF:Keys K F)(hp:p∈K):
  (Q5 (Va K E F how) p).left=ix (QW (Q5 E p).left (Q5 F p).left how)/\(Q5 (Va K E F how) p).right=ix (QW (Q5 E p).right (Q5 F p).right how):=by
 have hB:=hE.brd (how:=how) hF;have hn:=jaK (F:=F) (how:=how) hE hp
 have ho:p.ay<p.b_y\/(p.ay=p.b_y/\p.ax<p.bx):=hE.ord p hp;have q1:(tw p).ay=2*p.ay:=rfl
 have q2:(tw p).b_y=2*p.b_y:=rfl;rcases ho with hl|⟨hl,_⟩
 .have hmid:QF (tw p) (QY p)=true:=qt.2 (by unfold QY;omega);have e0:Qw (Va K E F how) p=ix (QW (Qw E p) (Qw F p) how):=by
   rw[hB.out hp hl,hE.out hp hl,hF.out hp hl,x7,x7,x7];exact ja0 hE hF (jgv hE.net (UH hp) hmid)
  unfold cB at hn;unfold Q5 at hn⊢;rw[if_neg Om,if_neg Om] at hn;rw[if_neg Om,if_neg Om,if_neg Om];simp only at hn⊢;rw[hn,e0];exact⟨by omega,rfl⟩
 .have e0:Qw (Va K E F how) p=ix (QW (Qw E p) (Qw F p) how):=by
   rw[hB.lev_out hp hl true (X:=2*p.bx) rfl,hE.lev_out hp hl true (X:=2*p.bx) rfl,hF.lev_out hp hl true (X:=2*p.bx) rfl];exact ja0 hE hF (jgu hE.net _ true (jna _) λe _ ha=>by have:=qt.1 ha;omega)
  unfold cB at hn;unfold Q5 at hn⊢;rw[if_pos hl,if_pos hl] at hn;rw[if_pos hl,if_pos hl,if_pos hl];simp only at hn⊢;rw[hn,e0];exact⟨rfl,by omega⟩
theorem jai(b:Bool):QW (ix b) 0 1=b:=by cases b<;>rfl
theorem R9(p:Leg):(Q5 [] p).left=0/\(Q5 [] p).right=0:=by
 unfold Q5;split<;>exact⟨rfl,rfl⟩
theorem jbW{K2:List Leg}(hE:Keys K E)(hF:Keys K F)(hK:K2=K.filter λp=> !(zS p (QW (Q5 E p).left (Q5 F p).left how) (QW (Q5 E p).right (Q5 F p).right how)).isEmpty)(hB:∀p,Q5 B p=Q5 (Va K E F how) p):
  Va K2 B [] 1=Va K E F how:=by
 rw[hK];have key:∀L:List Leg,(∀p∈L,p∈K)->Va (L.filter λp=> !(zS p (QW (Q5 E p).left (Q5 F p).left how) (QW (Q5 E p).right (Q5 F p).right how)).isEmpty) B [] 1=Va L E F how:=λL=>by
  induction L with
  |nil=>intro _;rfl
  |cons p L ih=>
   intro hL;have ih':=ih λq hq=>hL q (jlQ _ hq)
   obtain⟨s1,s2⟩:=FY (how:=how) hE hF (hL p (jl7 ..));obtain⟨z1,z2⟩:=R9 p;rw[List.filter_cons];have e0:Va (p::L) E F how=zS p (QW (Q5 E p).left (Q5 F p).left how) (QW (Q5 E p).right (Q5 F p).right how)++Va L E F how:=by
    unfold Va;rw[jl4]
   rw[e0];split
   .have e1:∀M:List Leg,Va (p::M) B [] 1=zS p (QW (Q5 B p).left (Q5 [] p).left 1) (QW (Q5 B p).right (Q5 [] p).right 1)++Va M B [] 1:=λM=>by
     unfold Va;rw[jl4]
    rw[e1,ih',hB p,s1,s2,z1,z2,jai,jai]
   .rename_i hk;rw[ih'];have:zS p (QW (Q5 E p).left (Q5 F p).left how) (QW (Q5 E p).right (Q5 F p).right how)=[]:=by simpa using hk
    rw[this,jmt]
 exact key K λ_ h=>h
end Go.Proofs.YtjbahemkhphndaaGreat
