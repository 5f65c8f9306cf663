import Derived.Test.YtbahojdbmmjkcaaGreatMNetT
import Derived.Test.YtbahojdbmmjkcaaGreatMNetI
import Derived.Test.YtbahojdbmmjkcaaGreatMBrd2
set_option linter.unusedVariables false
set_option linter.unusedSimpArgs false
namespace Go.Proofs.YtbahojdbmmjkcaaGreat
open Go Go.RowKit
variable {B E F K R:List Leg} {M N:Leg→Int} {W Y Z a b how x:Int} {e e0 f p:Leg} {v:Pn} {α:Type}
theorem VU (f:α→Int) {l m:List α} (h:l.Perm m) :sm f l=sm f m:=by
 induction h with
 | nil=>rfl
 | cons x _ ih=>simp only [sm,ih]
 | swap x y l=>simp only [sm];omega
 | trans _ _ h1 h2=>exact h1.trans h2
theorem LP {α:Type} (q:α→Bool) (f:α→Int) :∀l:List α,sm f (l.filter q) =sm (fun e=>if q e=true then f e else 0) l
 | [] =>rfl
 | a::l=>by
  rw [List.filter_cons]
  by_cases h:q a=true
  ·rw [if_pos h]
   simp only [sm,LP q f l,if_pos h]
  ·rw [if_neg h]
   simp only [sm,LP q f l,if_neg h]
   omega
theorem Ps {α:Type} (lt:α→α→Prop) :∀(R:List α),R≠ []→(∀a∈R,∀b∈R,a≠b→lt a b∨lt b a)→(∀a∈R,∀b∈R,∀c∈R,lt a b→lt b c→lt a c)→∃m∈R,∀x∈R,x≠m→lt m x
 | [],h,_,_=>absurd rfl h
 | [a],_,_,_=>⟨a,by simp,fun x hx hn=>absurd (jjp.1 hx) hn⟩
 | a::b::l,_,ht,hr=>by
  obtain ⟨m,hm,hmin⟩ :=Ps lt (b::l) (by simp) (fun x hx y hy=>ht x (jjs _ hx) y (jjs _ hy)) (fun x hx y hy z hz=>hr x (jjs _ hx) y (jjs _ hy) z (jjs _ hz))
  have hma:m∈a::b::l:=jjs _ hm
  by_cases ham:a=m
  ·subst ham
   refine⟨a,by simp,fun x hx hn=> ?_⟩
   rcases jjw.1 hx with h | h
   ·exact absurd h hn
   ·exact hmin x h hn
  ·rcases ht a (by simp) m hma ham with h | h
   ·refine⟨a,by simp,fun x hx hn=> ?_⟩
    rcases jjw.1 hx with h1 | h1
    ·exact absurd h1 hn
    ·by_cases hxm:x=m
     ·rw [hxm];exact h
     ·exact hr a (by simp) m hma x hx h (hmin x h1 hxm)
   ·refine⟨m,hma,fun x hx hn=> ?_⟩
    rcases jjw.1 hx with h1 | h1
    ·rw [h1];exact h
    ·exact hmin x h1 hn
def Vc {α:Type} (lt:α→α→Bool) (N:α→Int) (R:List α) (p:α) :Int:=sm (fun e=>if lt p e=true then N e else 0) R
theorem jiP {α:Type} [DecidableEq α] (lt:α→α→Bool) (N M:α→Int) (g:Int→Int→Int) :∀(n:Nat) (R:List α),R.length=n→R.Nodup→
  (∀a∈R,∀b∈R,a≠b→lt a b=true∨lt b a=true)→(∀a∈R,∀b∈R,∀c∈R,lt a b=true→lt b c=true→lt a c=true)→(∀a∈R,lt a a=false)→
  sm (fun p=>g (Vc lt N R p+N p) (Vc lt M R p+M p) - g (Vc lt N R p) (Vc lt M R p)) R=g (sm N R) (sm M R) - g 0 0
 | 0,R,hl,_,_,_,_=>by
  obtain rfl:=List.length_eq_zero_iff.1 hl
  simp [sm]
 | n+1,R,hl,hn,ht,hr,hi=>by
  obtain ⟨m,hm,hmin⟩ :=Ps (fun a b=>lt a b=true) R (by intro h;rw [h] at hl;simp at hl) ht hr
  have hp:R.Perm (m::R.erase m) :=List.perm_cons_erase hm
  have hsub:∀x∈R.erase m,x∈R:=fun x hx=>List.mem_of_mem_erase hx
  have hnm:∀x∈R.erase m,x≠m:=fun x hx e=>by
   rw [e] at hx
   exact(List.Nodup.not_mem_erase hn) hx
  have hasym:∀x∈R.erase m,lt x m=false:=fun x hx=>by
   cases h:lt x m with
   | false=>rfl
   | true=>
    have:=hr m hm x (hsub x hx) m hm (hmin x (hsub x hx) (hnm x hx)) h
    rw [hi m hm] at this
    cases this
  have key:∀(N:α→Int) (p:α),Vc lt N R p= (if lt p m=true then N m else 0) +Vc lt N (R.erase m) p:=fun N p=>by
   unfold Vc
   rw [VU _ hp]
   rfl
  have k1:∀(N:α→Int),Vc lt N R m=sm N (R.erase m) :=fun N=>by
   rw [key,hi m hm]
   have:Vc lt N (R.erase m) m=sm N (R.erase m) :=J0 fun x hx=>if_pos (hmin x (hsub x hx) (hnm x hx))
   rw [this]
   simp
  have k2:∀(N:α→Int),∀p∈R.erase m,Vc lt N R p=Vc lt N (R.erase m) p:=fun N p hx=>by
   rw [key,hasym p hx]
   simp
  have ih:=jiP lt N M g n (R.erase m) (by rw [List.length_erase_of_mem hm,hl];rfl) (hn.erase m) (fun a ha b hb=>ht a (hsub a ha) b (hsub b hb)) (fun a ha b hb c hc=>hr a (hsub a ha) b (hsub b hb) c (hsub c hc)) (fun a ha=>hi a (hsub a ha))
  rw [VU _ hp,VU N hp,VU M hp]
  simp only [sm]
  rw [J0 (l:=R.erase m) (g:=fun p=>g (Vc lt N (R.erase m) p+N p) (Vc lt M (R.erase m) p+M p) - g (Vc lt N (R.erase m) p) (Vc lt M (R.erase m) p)) (fun p hx=>by rw [k2 N p hx,k2 M p hx]),ih,k1 N,k1 M]
  rw [Int.add_comm (sm N (R.erase m)) (N m),Int.add_comm (sm M (R.erase m)) (M m)]
  omega
def den (p:Leg) :Int:=p.b_y- p.ay
def num (p:Leg) (Y:Int) :Int:=p.ax*den p+ (p.bx- p.ax) * (Y- p.ay)
def Vj (e p:Leg) (Y:Int) :Int:=num e Y*den p- num p Y*den e
def RI (e p:Leg) :Int:= (e.bx- e.ax) *den p- (p.bx- p.ax) *den e
theorem VD (e p:Leg) (Y Z:Int) :Vj e p Z=Vj e p Y+RI e p* (Z- Y) :=by unfold Vj RI num;grind
theorem XQ (e p:Leg) (Y:Int) :Vj p e Y= -Vj e p Y:=by unfold Vj;grind
theorem jfa (e p q:Leg) (Y:Int) :Vj e q Y*den p=Vj e p Y*den q+Vj p q Y*den e:=by unfold Vj;grind
theorem jgg (e p q:Leg) :RI e q*den p=RI e p*den q+RI p q*den e:=by unfold RI;grind
theorem O1 (p:Leg) :num p p.ay=p.ax*den p:=by unfold num;grind
theorem O2 (p:Leg) :num p p.b_y=p.bx*den p:=by unfold num den;grind
theorem Cx (e p:Leg) :Vj e p e.ay=den e* (e.ax*den p- num p e.ay) :=by unfold Vj;rw [O1];grind
theorem jck (e p:Leg) :Vj e p e.b_y=den e* (e.bx*den p- num p e.b_y) :=by unfold Vj;rw [O2];grind
def vd (e:Leg) (Y:Int) :Bool:=decide (e.ay≤Y) &&decide (Y<e.b_y)
theorem qU :vd e Y=true↔e.ay≤Y∧Y<e.b_y:=by simp [vd]
def ut (e p:Leg) :Int:=max e.ay p.ay
def uG (e p:Leg) :Int:=min e.b_y p.b_y
def xz (e p:Leg) :Bool:=decide (0<Vj e p (ut e p) +Vj e p (uG e p))
def rgY (e p:Leg) (Y:Int) :Prop:=0<Vj e p Y∨(Vj e p Y=0∧0<RI e p)
theorem wi (hb:0<b) (h:0<a*b) :0<a:=by
 rcases jk5 0 a with h1 | h1
 ·exact h1
 ·have:=jjD (show 0≤-a by omega) (jj7 hb)
  rw [jlh] at this
  omega
theorem wq (hb:0<b) (h:a*b=0) :a=0:=by
 rcases Int.mul_eq_zero.1 h with h | h
 ·exact h
 ·omega
theorem H0 {q:Leg} (he:0<den e) (hp:0<den p) (hq:0<den q) (h1:rgY e p Y) (h2:rgY p q Y) :rgY e q Y:=by
 have t1:=jfa e p q Y
 have t2:=jgg e p q
 rcases h1 with h1 |⟨h1,h1'⟩
 ·have a1:=jjZ h1 hq
  rcases h2 with h2 |⟨h2,_⟩
  ·have a2:=jjZ h2 he
   exact .inl (wi hp Om)
  ·rw [h2,jkd] at t1
   exact .inl (wi hp Om)
 ·rw [h1,jkd] at t1
  rcases h2 with h2 |⟨h2,h2'⟩
  ·have a2:=jjZ h2 he
   exact .inl (wi hp Om)
  ·rw [h2,jkd] at t1
   have a1:=jjZ h1' hq
   have a2:=jjZ h2' he
   exact .inr ⟨wq hp Om,wi hp Om⟩
structure SepE (e p:Leg) :Prop where
 side:0<den e→0<den p→ut e p<uG e p→(0≤Vj e p (ut e p)∧0≤Vj e p (uG e p)∧0<Vj e p (ut e p) +Vj e p (uG e p))∨(Vj e p (ut e p)≤0∧Vj e p (uG e p)≤0∧Vj e p (ut e p) +Vj e p (uG e p) <0)
 endA:0<den p→p.ay<e.ay→e.ay<p.b_y→e.ax*den p≠num p e.ay
 endB:0<den p→p.ay<e.b_y→e.b_y<p.b_y→e.bx*den p≠num p e.b_y
 flat:0<den p→e.ay=e.b_y→p.ay<e.ay→e.ay<p.b_y→(num p e.ay<e.ax*den p∧num p e.ay<e.bx*den p)∨(e.ax*den p<num p e.ay∧e.bx*den p<num p e.ay)
structure SepL (e p:Leg) :Prop where
 lev:p.ay=p.b_y→0<den e→e.ay≤p.ay→p.ay≤e.b_y→num e p.ay≤p.ax*den e∨p.bx*den e≤num e p.ay
 lev2:p.ay=p.b_y→e.ay=e.b_y→e.ay=p.ay→e.bx≤p.ax∨p.bx≤e.ax
theorem Un (h:SepE e p) (he:vd e Y=true) (hp:vd p Y=true) :xz e p=true↔rgY e p Y:=by
 rw [qU] at he hp
 have de:0<den e:=by unfold den;omega
 have dp:0<den p:=by unfold den;omega
 have hL:ut e p≤Y:=by unfold ut;omega
 have hU:Y<uG e p:=by unfold uG;omega
 have hs:=h.side de dp Om
 have l1:=VD e p (ut e p) Y
 have l2:=VD e p Y (uG e p)
 have l3:=VD e p (ut e p) (uG e p)
 unfold xz rgY
 rw [decide_eq_true_iff]
 generalize Vj e p (ut e p) =a at*
 generalize Vj e p (uG e p) =b at*
 generalize Vj e p Y=c at*
 generalize ut e p=L at*
 generalize uG e p=U at*
 generalize RI e p=s at*
 have main:c* (U- L) =a* (U- Y) +b* (Y- L) :=by
  have:b=a+s* (U- L) :=l3
  rw [l1,this];grind
 rcases hs with⟨h1,h2,h3⟩ |⟨h1,h2,h3⟩
 ·refine⟨fun _=> ?_,fun _=>h3⟩
  have m1:=jjD h1 (show 0≤U- Y by omega)
  have m2:=jjD h2 (show 0≤Y- L by omega)
  rcases jj4 c 0 with hc | hc | hc
  ·have:=jke hc (show 0<U- L by omega)
   omega
  ·right
   refine⟨hc,?_⟩
   rw [hc,jkd] at main
   have ha:a=0:=wq (show 0<U- Y by omega) Om
   have hb:0<s* (U- L) :=by omega
   exact wi Om hb
  ·exact .inl hc
 ·refine⟨fun k=>absurd k Om,fun k=> ?_⟩
  exfalso
  have m1:=jjD (show 0≤-a by omega) (show 0≤U- Y by omega)
  have m2:=jjD (show 0≤-b by omega) (show 0≤Y- L by omega)
  rw [jlh] at m1 m2
  rcases k with k |⟨k,k'⟩
  ·have:=jjZ k (show 0<U- L by omega)
   omega
  ·rw [k,jkd] at main
   have ha: -a=0:=wq (show 0<U- Y by omega) (by rw [jlh];omega)
   have:=jjZ k' (show 0<U- L by omega)
   omega
theorem jfv (e p:Leg) :ut e p=ut p e:=by unfold ut;omega
theorem jfj (e p:Leg) :uG e p=uG p e:=by unfold uG;omega
theorem jdR (h:SepE e p) (he:vd e Y=true) (hp:vd p Y=true) : (xz e p=true∨xz p e=true) :=by
 rw [qU] at he hp
 have hs:=h.side (by unfold den;omega) (by unfold den;omega) (by unfold ut uG;omega)
 unfold xz
 rw [decide_eq_true_iff,decide_eq_true_iff,←jfv e p,←jfj e p,XQ e p,XQ e p]
 omega
theorem H1 (p:Leg) :xz p p=false:=by
 unfold xz
 have h1:∀Y,Vj p p Y=0:=fun Y=>by unfold Vj;omega
 rw [h1,h1]
 rfl
def Ec (p:Leg) (Y Z x y:Int) :Int:=if(Y<y∧y≤Z)∧num p y<x*den p then 1 else 0
def ix (b:Bool) :Int:=if b=true then 1 else 0
theorem xZ {d y:Int} (hd:0<d) :0<d* (x- y)↔y<x:=by
 constructor
 ·intro h
  have:=wi hd (show 0< (x- y) *d by rw [jj1];exact h)
  omega
 ·intro h
  exact jjZ hd Om
theorem NK (h:SepE e p) (dp:0<den p) (hab:e.ay≤e.b_y) (h1:p.ay≤Y) (h2:Y≤Z) (h3:Z<p.b_y) :
  ix (vd e Z&&xz e p) - ix (vd e Y&&xz e p) =Ec p Y Z e.ax e.ay- Ec p Y Z e.bx e.b_y:=by
 rcases jkX hab with hlt | heq
 ·have de:0<den e:=by unfold den;omega
  have onA:Y<e.ay→e.ay≤Z→Ec p Y Z e.ax e.ay=ix (xz e p) :=fun a1 a2=>by
   have hs:=h.side de dp (by unfold ut uG;omega)
   have eL:ut e p=e.ay:=by unfold ut;omega
   have hne:=h.endA dp Om Om
   have hd:=Cx e p
   rw [eL] at hs
   have hiff:=xZ (x:=e.ax*den p) (y:=num p e.ay) de
   rw [←hd] at hiff
   have hz:Vj e p e.ay≠0:=fun h0=>by
    rw [hd] at h0
    rcases Int.mul_eq_zero.1 h0 with h0 | h0<;>omega
   unfold Ec ix xz
   rw [eL]
   by_cases hp:num p e.ay<e.ax*den p
   ·rw [if_pos ⟨⟨a1,a2⟩,hp⟩,if_pos (decide_eq_true (by have:=hiff.2 hp;omega))]
   ·rw [if_neg (fun k=>hp k.2),if_neg (by rw [decide_eq_true_iff];have:¬0<Vj e p e.ay:=fun k=>hp (hiff.1 k);omega)]
  have DC:Y<e.b_y→e.b_y≤Z→Ec p Y Z e.bx e.b_y=ix (xz e p) :=fun a1 a2=>by
   have hs:=h.side de dp (by unfold ut uG;omega)
   have eU:uG e p=e.b_y:=by unfold uG;omega
   have hne:=h.endB dp Om Om
   have hd:=jck e p
   rw [eU] at hs
   have hiff:=xZ (x:=e.bx*den p) (y:=num p e.b_y) de
   rw [←hd] at hiff
   have hz:Vj e p e.b_y≠0:=fun h0=>by
    rw [hd] at h0
    rcases Int.mul_eq_zero.1 h0 with h0 | h0<;>omega
   unfold Ec ix xz
   rw [eU]
   by_cases hp:num p e.b_y<e.bx*den p
   ·rw [if_pos ⟨⟨a1,a2⟩,hp⟩,if_pos (decide_eq_true (by have:=hiff.2 hp;omega))]
   ·rw [if_neg (fun k=>hp k.2),if_neg (by rw [decide_eq_true_iff];have:¬0<Vj e p e.b_y:=fun k=>hp (hiff.1 k);omega)]
  have offA:¬(Y<e.ay∧e.ay≤Z)→Ec p Y Z e.ax e.ay=0:=fun k=>if_neg (fun q=>k q.1)
  have offB:¬(Y<e.b_y∧e.b_y≤Z)→Ec p Y Z e.bx e.b_y=0:=fun k=>if_neg (fun q=>k q.1)
  have actv:∀W,ix (vd e W&&xz e p) =if e.ay≤W∧W<e.b_y then ix (xz e p) else 0:=fun W=>by
   unfold ix
   by_cases hw:e.ay≤W∧W<e.b_y
   ·rw [if_pos hw,qU.2 hw,jjG]
   ·have:vd e W=false:=by cases k:vd e W with | false=>rfl | true=>exact absurd (qU.1 k) hw
    rw [if_neg hw,this]
    rfl
  rw [actv,actv]
  by_cases a1:Y<e.ay∧e.ay≤Z
  ·rw [onA a1.1 a1.2]
   by_cases b1:Y<e.b_y∧e.b_y≤Z
   ·rw [DC b1.1 b1.2,if_neg Om,if_neg Om]
    omega
   ·rw [offB b1,if_pos Om,if_neg Om]
  ·rw [offA a1]
   by_cases b1:Y<e.b_y∧e.b_y≤Z
   ·rw [DC b1.1 b1.2,if_neg Om,if_pos Om]
   ·rw [offB b1]
    by_cases c1:e.ay≤Y∧Y<e.b_y
    ·rw [if_pos Om,if_pos c1]
     omega
    ·rw [if_neg Om,if_neg c1]
 ·have na:∀W,ix (vd e W&&xz e p) =0:=fun W=>by
   have:vd e W=false:=by cases k:vd e W with | false=>rfl | true=> (have:=qU.1 k;omega)
   rw [this]
   rfl
  rw [na,na]
  unfold Ec
  rw [←heq]
  by_cases hr:Y<e.ay∧e.ay≤Z
  ·have hf:=h.flat dp heq Om Om
   rcases hf with hf | hf
   ·rw [if_pos ⟨hr,hf.1⟩,if_pos ⟨hr,hf.2⟩]
    rfl
   ·rw [if_neg (fun k=>by omega),if_neg (fun k=>by omega)]
  ·rw [if_neg (fun k=>hr k.1),if_neg (fun k=>hr k.1)]
structure Net (K:List Leg) (N:Leg→Int) :Prop where
 nd:K.Nodup
 ord:∀e∈K,vG (lA e) (lB e)
 sep:∀e∈K,∀p∈K,e≠p→SepE e p
 close:∀f:Int→Int→Int,sm (fun e=>N e* (f e.ax e.ay- f e.bx e.b_y)) K=0
theorem jgJ (h:vG (lA e) (lB e)) :e.ay≤e.b_y:=by
 rcases h with h |⟨h,_⟩
 ·exact jj7 h
 ·exact jk1 h
def KI (K:List Leg) (N:Leg→Int) (p:Leg) (Y:Int) :Int:=sm (fun e=>if e=p then 0 else N e*ix (vd e Y&&xz e p)) K
theorem LM (h:Net K N) (hp:p∈K) (h1:p.ay≤Y) (h2:Y≤Z) (h3:Z<p.b_y) :KI K N p Z=KI K N p Y:=by
 have dp:0<den p:=by unfold den;omega
 have key:sm (fun e=> (if e=p then 0 else N e*ix (vd e Z&&xz e p)) - (if e=p then 0 else N e*ix (vd e Y&&xz e p))) K=sm (fun e=>N e* (Ec p Y Z e.ax e.ay- Ec p Y Z e.bx e.b_y)) K:=by
  refine J0 fun e he=> ?_
  by_cases hep:e=p
  ·rw [if_pos hep,if_pos hep,hep]
   have a:Ec p Y Z p.ax p.ay=0:=if_neg (fun k=>by omega)
   have b:Ec p Y Z p.bx p.b_y=0:=if_neg (fun k=>by omega)
   rw [a,b]
   simp
  ·rw [if_neg hep,if_neg hep,←NK (h.sep e he p hp hep) dp (jgJ (h.ord e he)) h1 h2 h3]
   grind
 rw [yM,h.close (Ec p Y Z)] at key
 unfold KI
 omega
theorem Y2 (h:Net K N) (hp:p∈K) (hY:vd p Y=true) (hZ:vd p Z=true) :KI K N p Z=KI K N p Y:=by
 rw [qU] at hY hZ
 rcases Int.le_total Y Z with k | k
 ·exact LM h hp hY.1 k hZ.2
 ·exact(LM h hp hZ.1 k hY.2).symm
theorem uO {q:Leg→Bool} :sm (fun e=>N e*ix (q e)) K=sm N (K.filter q) :=by
 rw [LP]
 refine J0 fun e _=> ?_
 unfold ix
 split<;>simp
structure UpR (K R:List Leg) (Y:Int) :Prop where
 sub:∀e∈R,e∈K∧vd e Y=true
 nd:R.Nodup
 all:∀p∈R,∀e∈K,vd e Y=true→xz e p=true→e∈R
theorem Pu {l m:List Leg} (hl:l.Nodup) (hm:m.Nodup) (h:∀x,x∈l↔x∈m) :l.Perm m:= (jlc hl hm).2 h
theorem GE (h:Net K N) (hu:UpR K R Y) (hp:p∈R) :Vc (fun p e=>xz e p) N R p=KI K N p Y:=by
 unfold Vc KI
 have e1:sm (fun e=>if e=p then 0 else N e*ix (vd e Y&&xz e p)) K=sm N (K.filter fun e=>vd e Y&&xz e p) :=by
  rw [←uO]
  refine J0 fun e _=> ?_
  by_cases hep:e=p
  ·rw [if_pos hep,hep,H1,jkW]
   simp [ix]
  ·rw [if_neg hep]
 have e2:sm (fun e=>if xz e p=true then N e else 0) R=sm N (R.filter fun e=>xz e p) := (LP _ _ _).symm
 rw [e1,e2]
 refine VU _ (Pu (hu.nd.filter _) (h.nd.filter _) fun x=> ?_)
 simp only [jkc,jjl]
 constructor
 ·rintro⟨h1,h2⟩
  exact⟨(hu.sub x h1).1,(hu.sub x h1).2,h2⟩
 ·rintro⟨h1,h2,h3⟩
  exact⟨hu.all p hp x h1 h2 h3,h3⟩
theorem ray (hN:Net K N) (hM:Net K M) (hu:UpR K R Y) (g:Int→Int→Int) :
  sm (fun p=>g (KI K N p Y+N p) (KI K M p Y+M p) - g (KI K N p Y) (KI K M p Y)) R=g (sm N R) (sm M R) - g 0 0:=by
 have hd:∀e∈R,0<den e:=fun e he=>by have:=qU.1 (hu.sub e he).2;unfold den;omega
 have hs:∀a∈R,∀b∈R,a≠b→SepE a b:=fun a ha b hb hn=>hN.sep a (hu.sub a ha).1 b (hu.sub b hb).1 hn
 have ht:=jiP (fun p e=>xz e p) N M g R.length R rfl hu.nd
  (fun a ha b hb hn=> (jdR (hs b hb a ha (Ne.symm hn)) (hu.sub b hb).2 (hu.sub a ha).2))
  (fun a ha b hb c hc h1 h2=>by
   by_cases hab:b=a
   ·subst hab;exact h2
   ·by_cases hbc:c=b
    ·subst hbc;exact h1
    ·have r1:= (Un (hs b hb a ha hab) (hu.sub b hb).2 (hu.sub a ha).2).1 h1
     have r2:= (Un (hs c hc b hb hbc) (hu.sub c hc).2 (hu.sub b hb).2).1 h2
     have r3:=H0 (hd c hc) (hd b hb) (hd a ha) r2 r1
     by_cases hac:c=a
     ·subst hac
      exfalso
      have z1:Vj c c Y=0:=by unfold Vj;omega
      have z2:RI c c=0:=by unfold RI;omega
      unfold rgY at r3
      omega
     ·exact(Un (hs c hc a ha hac) (hu.sub c hc).2 (hu.sub a ha).2).2 r3)
  (fun a _=>H1 a)
 rw [←ht]
 refine J0 fun p hp=> ?_
 rw [GE hN hu hp,GE hM hu hp]
theorem BB [DecidableEq α] {K:List α} (hn:K.Nodup) {k:α} (hk:k∈K) (F:α→Int) :sm (fun x=>if k=x then F x else 0) K=F k:=by
 induction K with
 | nil=>cases hk
 | cons a l ih=>
  simp only [sm]
  rw [jkJ] at hn
  by_cases h:k=a
  ·rw [if_pos h,J0 (g:=fun _=>0) (fun x hx=>if_neg (fun e=>hn.1 (by rw [←h,e];exact hx))),uf,h]
   omega
  ·rw [if_neg h,ih hn.2 ((jjw.1 hk).resolve_left h)]
   omega
theorem GC {K:List Leg} (hn:K.Nodup) (F:Leg→Int) :∀(E:List Leg),(∀e∈E,Q3 e∈K)→sm (fun e=>sg e*F (Q3 e)) E=sm (fun k=>Qo E k*F k) K
 | [],_=>by
  have:sm (fun k=>Qo [] k*F k) K=sm (fun _=> (0:Int)) K:=J0 fun k _=>by simp [Qo,sm]
  rw [this,uf]
  rfl
 | e::E,h=>by
  have ih:=GC hn F E (fun x hx=>h x (jjs _ hx))
  have e1:sm (fun k=>Qo (e::E) k*F k) K=sm (fun k=> (if Q3 e=k then sg e*F k else 0) +Qo E k*F k) K:=J0 fun k _=>by
   simp only [Qo,sm]
   split<;>grind
  rw [e1,yL,BB hn (h e (by simp)) (fun k=>sg e*F k),←ih]
  rfl
theorem Ll (e:Leg) (x y:Int) :sg e*QB (Q3 e) x y=QB e x y:=by
 unfold sg Q3
 split
 ·rw [xb];omega
 ·omega
def Ej (x y:Int) (e:Leg) :Bool:=vd e y&&decide (x*den e<num e y)
theorem EN (e:Leg) (x y:Int) :Q0 e.ax e.ay e.bx e.b_y x y=num e y- x*den e:=by unfold Q0 num den;grind
theorem GY (h:vG (lA e) (lB e)) (x y:Int) :QB e x y=ix (Ej x y e) :=by
 have hy:e.ay≤e.b_y:=by
  rcases h with h |⟨h,_⟩
  ·exact jj7 h
  ·exact jk1 h
 rw [Ug,EN]
 unfold ix Ej vd
 by_cases h1: (e.ay≤y∧y<e.b_y)∧0<num e y- x*den e
 ·rw [if_pos h1,if_pos (by simp;omega)]
 ·rw [if_neg h1,if_neg Om,if_neg (by simp;omega)]
theorem jh6 (h:Net K N) (x y:Int) :UpR K (K.filter (Ej x y)) y where
 sub:=fun e he=>by
  have:=jkc.1 he
  refine⟨this.1,?_⟩
  have h2:=this.2
  unfold Ej at h2
  rw [jjl] at h2
  exact h2.1
 nd:=h.nd.filter _
 all:=fun p hp e he ha hr=>by
  obtain ⟨hpK,hp2⟩ :=jkc.1 hp
  unfold Ej at hp2
  rw [jjl,decide_eq_true_iff] at hp2
  refine jkc.2 ⟨he,?_⟩
  unfold Ej
  rw [ha,jjG,decide_eq_true_iff]
  by_cases hep:e=p
  ·rw [hep];exact hp2.2
  ·have hg:= (Un (h.sep e he p hpK hep) ha hp2.1).1 hr
   have de:0<den e:=by have:=qU.1 ha;unfold den;omega
   have dp:0<den p:=by have:=qU.1 hp2.1;unfold den;omega
   have h0:0≤num e y*den p- num p y*den e:=by
    have:0≤Vj e p y:=by unfold rgY at hg;omega
    exact this
   have h1:=jjE hp2.2 de
   have h2:x*den e*den p<num e y*den p:=by
    have:x*den e*den p=x*den p*den e:=by grind
    omega
   exact jjV h2 (jj7 dp)
theorem jaB (h:Net K N) (hp:p∈K) (hl:p.ay<p.b_y) {mx my:Int} (hx:2*mx=p.ax+p.bx) (hy:2*my=p.ay+p.b_y) :
  sm (fun e=>if e=p then 0 else N e*QB e mx my) K=KI K N p my:=by
 have dp:0<den p:=by unfold den;omega
 have hm:num p my=mx*den p:=by
  have e1:2*num p my=2* (mx*den p) :=by
   have:2*num p my=2*p.ax*den p+ (p.bx- p.ax) * (2*my- 2*p.ay) :=by unfold num;grind
   rw [this,hy]
   have:2* (mx*den p) = (2*mx) *den p:=by grind
   rw [this,hx]
   unfold den
   grind
  omega
 unfold KI
 refine J0 fun e he=> ?_
 by_cases hep:e=p
 ·rw [if_pos hep,if_pos hep]
 ·rw [if_neg hep,if_neg hep,GY (h.ord e he)]
  have hs:=h.sep e he p hp hep
  have:Ej mx my e= (vd e my&&xz e p) :=by
   unfold Ej
   cases ha:vd e my with
   | false=>rfl
   | true=>
    rw [jjG,jjG,jjT,decide_eq_true_iff,Un hs ha (qU.2 ⟨by omega,by omega⟩)]
    have ha2:=qU.1 ha
    have de:0<den e:=by unfold den;omega
    have hd:Vj e p my=den p* (num e my- mx*den e) :=by unfold Vj;rw [hm];grind
    have hne:Vj e p my≠0:=fun h0=>by
     have hL:ut e p≤my:=by unfold ut;omega
     have hU:my<uG e p:=by unfold uG;omega
     rcases jkX hL with h1 | h1
     ·have hsd:=hs.side de dp Om
      have l1:=VD e p (ut e p) my
      have l3:=VD e p (ut e p) (uG e p)
      rw [h0] at l1
      have main:0=Vj e p (ut e p) * (uG e p- my) +Vj e p (uG e p) * (my- ut e p) :=by
       rw [l3]
       generalize Vj e p (ut e p) =a at*
       generalize RI e p=s at*
       generalize ut e p=L at*
       generalize uG e p=U at*
       have:a= -(s* (my- L)) :=by omega
       rw [this];grind
      rcases hsd with⟨b1,b2,b3⟩ |⟨b1,b2,b3⟩
      ·have m1:=jjD b1 (show 0≤uG e p- my by omega)
       have m2:=jjD b2 (show 0≤my- ut e p by omega)
       have z1:=wq (a:=Vj e p (ut e p)) (show 0<uG e p- my by omega) Om
       have z2:=wq (a:=Vj e p (uG e p)) (show 0<my- ut e p by omega) Om
       omega
      ·have m1:=jjD (show 0≤-Vj e p (ut e p) by omega) (show 0≤uG e p- my by omega)
       have m2:=jjD (show 0≤-Vj e p (uG e p) by omega) (show 0≤my- ut e p by omega)
       rw [jlh] at m1 m2
       have z1:=wq (a:=Vj e p (ut e p)) (show 0<uG e p- my by omega) Om
       have z2:=wq (a:=Vj e p (uG e p)) (show 0<my- ut e p by omega) Om
       omega
     ·have he2:e.ay=my:=by unfold ut at h1;omega
      have hA:=hs.endA dp Om Om
      have:=Cx e p
      rw [he2,h0] at this
      rcases Int.mul_eq_zero.1 this.symm with k | k
      ·omega
      ·rw [he2] at hA;omega
    have hiff:0<Vj e p my↔mx*den e<num e my:=by rw [hd];exact xZ dp
    unfold rgY
    omega
  rw [this]
theorem Z7 {α β:Type} (f:β→Int) (g:α→List β) :∀l:List α,sm f (l.flatMap g) =sm (fun x=>sm f (g x)) l
 | [] =>rfl
 | x::l=>by rw [jjH,kV,Z7 f g l];rfl
theorem GL (p:Leg) (l r:Bool) (f:Leg→Int) (hf:f (ku p) = -f p) :sm f (zK p l r) = (ix l- ix r) *f p:=by
 unfold zK ix
 cases l<;>cases r<;>simp [sm,hf]
abbrev tw (e:Leg) :Leg:=kg true e
theorem yO (e:Leg) :Q3 (tw e) =tw (Q3 e) :=by
 unfold Q3
 have:vG (lB (tw e)) (lA (tw e))↔vG (lB e) (lA e) :=by simp only [vG,lA,lB,tw,kg,if_true];omega
 by_cases h:vG (lB e) (lA e)
 ·rw [if_pos h,if_pos (this.2 h)];rfl
 ·rw [if_neg h,if_neg (fun k=>h (this.1 k))]
theorem FY (e:Leg) :sg (tw e) =sg e:=by
 unfold sg
 have:vG (lB (tw e)) (lA (tw e))↔vG (lB e) (lA e) :=by simp only [vG,lA,lB,tw,kg,if_true];omega
 by_cases h:vG (lB e) (lA e)
 ·rw [if_pos h,if_pos (this.2 h)]
 ·rw [if_neg h,if_neg (fun k=>h (this.1 k))]
theorem BT (h:tw e=tw f) :e=f:=by
 rcases e with⟨a1,a2,a3,a4⟩
 rcases f with⟨b1,b2,b3,b4⟩
 simp only [tw,kg,if_true,Leg.mk.injEq] at h
 rw [Leg.mk.injEq]
 omega
theorem Li (E:List Leg) (p:Leg) :Qo (E.map tw) (tw p) =Qo E p:=by
 unfold Qo
 rw [wV]
 refine J0 fun e _=> ?_
 rw [yO,FY]
 by_cases h:Q3 e=p
 ·rw [if_pos h,if_pos (by rw [h])]
 ·rw [if_neg h,if_neg (fun k=>h (BT k))]
theorem uj (e:Leg) :den (tw e) =2*den e:=by simp only [den,tw,kg,if_true];omega
theorem Lj (e:Leg) (Y:Int) :num (tw e) (2*Y) =4*num e Y:=by simp only [num,den,tw,kg,if_true];grind
theorem Nc (e:Leg) (x y:Int) :QB (tw e) (2*x) (2*y) =QB e x y:=by
 rw [Ug,Ug]
 have:Q0 (tw e).ax (tw e).ay (tw e).bx (tw e).b_y (2*x) (2*y) =4*Q0 e.ax e.ay e.bx e.b_y x y:=by simp only [Q0,tw,kg,if_true];grind
 rw [this]
 simp only [tw,kg,if_true]
 by_cases h: (e.ay≤y∧y<e.b_y)∧0<Q0 e.ax e.ay e.bx e.b_y x y
 ·rw [if_pos h,if_pos Om]
 ·rw [if_neg h,if_neg Om]
  by_cases h2: (e.b_y≤y∧y<e.ay)∧Q0 e.ax e.ay e.bx e.b_y x y<0
  ·rw [if_pos h2,if_pos Om]
  ·rw [if_neg h2,if_neg Om]
theorem jer (e p:Leg) (Y:Int) :Vj (tw e) (tw p) (2*Y) =8*Vj e p Y:=by
 unfold Vj
 rw [Lj,Lj,uj,uj]
 grind
theorem jh2 (h:SepE e p) :SepE (tw e) (tw p) where
 side:=fun h1 h2 h3=>by
  have eL:ut (tw e) (tw p) =2*ut e p:=by simp only [ut,tw,kg,if_true];omega
  have eU:uG (tw e) (tw p) =2*uG e p:=by simp only [uG,tw,kg,if_true];omega
  rw [uj] at h1 h2
  rw [eL,eU] at h3
  have:=h.side Om Om Om
  rw [eL,eU,jer,jer]
  omega
 endA:=fun h1 h2 h3=>by
  rw [uj] at h1
  have e1: (tw e).ay=2*e.ay:=rfl
  have e2: (tw e).ax=2*e.ax:=rfl
  have e3: (tw p).ay=2*p.ay:=rfl
  have e4: (tw p).b_y=2*p.b_y:=rfl
  rw [e1,e3] at h2
  rw [e1,e4] at h3
  have:=h.endA Om Om Om
  rw [e1,e2,Lj,uj]
  intro k
  have k4:4* (e.ax*den p) =4*num p e.ay:= (by rw [←k];grind)
  exact this Om
 endB:=fun h1 h2 h3=>by
  rw [uj] at h1
  have e1: (tw e).b_y=2*e.b_y:=rfl
  have e2: (tw e).bx=2*e.bx:=rfl
  have e3: (tw p).ay=2*p.ay:=rfl
  have e4: (tw p).b_y=2*p.b_y:=rfl
  rw [e1,e3] at h2
  rw [e1,e4] at h3
  have:=h.endB Om Om Om
  rw [e1,e2,Lj,uj]
  intro k
  have k4:4* (e.bx*den p) =4*num p e.b_y:= (by rw [←k];grind)
  exact this Om
 flat:=fun h1 h0 h2 h3=>by
  rw [uj] at h1
  have e0: (tw e).b_y=2*e.b_y:=rfl
  have e1: (tw e).ay=2*e.ay:=rfl
  have e2: (tw e).ax=2*e.ax:=rfl
  have e2': (tw e).bx=2*e.bx:=rfl
  have e3: (tw p).ay=2*p.ay:=rfl
  have e4: (tw p).b_y=2*p.b_y:=rfl
  rw [e1,e0] at h0
  rw [e1,e3] at h2
  rw [e1,e4] at h3
  have:=h.flat Om Om Om Om
  rw [e1,e2,e2',Lj,uj]
  have q1:2*e.ax* (2*den p) =4* (e.ax*den p) :=by grind
  have q2:2*e.bx* (2*den p) =4* (e.bx*den p) :=by grind
  rw [q1,q2]
  omega
theorem jgt (h:SepL e p) :SepL (tw e) (tw p) where
 lev:=fun h1 h2 h3 h4=>by
  rw [uj] at h2
  have e1: (tw p).ay=2*p.ay:=rfl
  have e2: (tw p).b_y=2*p.b_y:=rfl
  have e3: (tw e).ay=2*e.ay:=rfl
  have e4: (tw e).b_y=2*e.b_y:=rfl
  have e5: (tw p).ax=2*p.ax:=rfl
  have e6: (tw p).bx=2*p.bx:=rfl
  rw [e1,e2] at h1
  rw [e1,e3] at h3
  rw [e1,e4] at h4
  have:=h.lev Om Om Om Om
  rw [e1,e5,e6,Lj,uj]
  have q1:2*p.ax* (2*den e) =4* (p.ax*den e) :=by grind
  have q2:2*p.bx* (2*den e) =4* (p.bx*den e) :=by grind
  rw [q1,q2]
  omega
 lev2:=fun h1 h2 h3=>by
  simp only [tw,kg,if_true] at h1 h2 h3⊢
  have:=h.lev2 Om Om Om
  omega
theorem jes:∀ {K:List Leg},K.Nodup→(K.map tw).Nodup
 | [],_=>List.nodup_nil
 | a::l,h=>by
  rw [jkJ] at h
  rw [jjF,jkJ]
  refine⟨fun k=> ?_,jes h.2⟩
  obtain ⟨b,hb,e⟩ :=jjx.1 k
  exact h.1 (BT e▸hb)
structure Keys (K E:List Leg) :Prop where
 nd:K.Nodup
 ord:∀p∈K,vG (lA p) (lB p)
 sep:∀e∈K,∀p∈K,e≠p→SepE e p
 sepl:∀e∈K,∀p∈K,e≠p→SepL e p
 all:∀e∈E,Q3 e∈K
 close:∀f:Int→Int→Int,sm (fun e:Leg=>f e.ax e.ay- f e.bx e.b_y) E=0
theorem Keys.net (h:Keys K E) :Net (K.map tw) (Qo (E.map tw)) where
 nd:=jes h.nd
 ord:=fun e he=>by
  obtain ⟨p,hp,rfl⟩ :=jjx.1 he
  have:=h.ord p hp
  simp only [vG,lA,lB,tw,kg,if_true] at this⊢
  omega
 sep:=fun e he p hp hn=>by
  obtain ⟨e0,he0,rfl⟩ :=jjx.1 he
  obtain ⟨p0,hp0,rfl⟩ :=jjx.1 hp
  exact jh2 (h.sep e0 he0 p0 hp0 fun k=>hn (by rw [k]))
 close:=fun f=>by
  have hr:=GC (K:=K.map tw) (jes h.nd) (fun e=>f e.ax e.ay- f e.bx e.b_y) (E.map tw) (fun e he=>by
   obtain ⟨e0,he0,rfl⟩ :=jjx.1 he
   rw [yO]
   exact jjx.2 ⟨_,h.all e0 he0,rfl⟩)
  rw [←hr,wV]
  rw [←h.close (fun x y=>f (2*x) (2*y))]
  refine J0 fun e _=> ?_
  rw [yO,FY]
  unfold sg Q3
  split
  ·simp only [tw,kg,if_true,ku];omega
  ·simp only [tw,kg,if_true];omega
theorem Keys.wsum (h:Keys K E) (q:Pn) :ve q E=sm (Qo (E.map tw)) ((K.map tw).filter (Ej (2*q.1) (2*q.2))) :=by
 have hr:=GC (K:=K.map tw) h.net.nd (fun e=>QB e (2*q.1) (2*q.2)) (E.map tw) (fun e he=>by
   obtain ⟨e0,he0,rfl⟩ :=jjx.1 he
   rw [yO]
   exact jjx.2 ⟨_,h.all e0 he0,rfl⟩)
 rw [←uO]
 have e1:sm (fun k=>Qo (E.map tw) k*QB k (2*q.1) (2*q.2)) (K.map tw) =sm (fun e=>Qo (E.map tw) e*ix (Ej (2*q.1) (2*q.2) e)) (K.map tw) :=J0 fun k hk=>by rw [GY (h.net.ord k hk)]
 rw [←e1,←hr,wV]
 unfold Go.Proofs.YtbahojdbmmjkcaaGreat.ve
 refine J0 fun e _=> ?_
 rw [Ll,Nc]
theorem Keys.out (h:Keys K E) (hp:p∈K) (hl:p.ay<p.b_y) :WX E p=KI (K.map tw) (Qo (E.map tw)) (tw p) (vh p) :=by
 have hm:=jaB h.net (p:=tw p) (jjx.2 ⟨p,hp,rfl⟩) (by show 2*p.ay<2*p.b_y;omega) (mx:=vQ p) (my:=vh p) (by show _=2*p.ax+2*p.bx;unfold vQ;omega) (by show _=2*p.ay+2*p.b_y;unfold vh;omega)
 rw [←hm]
 have hr:=GC (K:=K.map tw) h.net.nd (fun e=>if e=tw p then 0 else QB e (vQ p) (vh p)) (E.map tw) (fun e he=>by
   obtain ⟨e0,he0,rfl⟩ :=jjx.1 he
   rw [yO]
   exact jjx.2 ⟨_,h.all e0 he0,rfl⟩)
 have e2:sm (fun e=>if e=tw p then 0 else Qo (E.map tw) e*QB e (vQ p) (vh p)) (K.map tw) =sm (fun k=>Qo (E.map tw) k* (if k=tw p then 0 else QB k (vQ p) (vh p))) (K.map tw) :=J0 fun k _=>by split<;>simp
 rw [e2,←hr,wV]
 unfold WX
 refine J0 fun e _=> ?_
 rw [yO,FY]
 by_cases k:Q3 e=p
 ·rw [if_pos k,if_pos (by rw [k])];simp
 ·rw [if_neg k,if_neg (fun c=>k (BT c)),←Ll (tw e),yO,FY]
def KK (K E F:List Leg) (how:Int) :List Leg:=K.flatMap fun p=>zK p (Qg (kZ E p).left (kZ F p).left how) (Qg (kZ E p).right (kZ F p).right how)
theorem Hq (how:Int) :Qg 0 0 how=false:=by unfold Qg;split<;> (try split) <;> (try split) <;>rfl
theorem jbV (hE:Keys K E) (hF:Keys K F) (q:Pn) :ve q (KK K E F how) =ix (Qg (ve q E) (ve q F) how) :=by
 have hr:=ray hE.net hF.net (jh6 hE.net (2*q.1) (2*q.2)) (fun a b=>ix (Qg a b how))
 rw [Hq] at hr
 rw [hE.wsum,hF.wsum]
 have h0:ix false=0:=rfl
 rw [h0,Int.sub_zero] at hr
 rw [←hr,LP,wV]
 unfold KK Go.Proofs.YtbahojdbmmjkcaaGreat.ve
 rw [Z7]
 refine J0 fun p hp=> ?_
 rw [GL p _ _ _ (xb p q.1 q.2),←Nc]
 rw [GY (hE.net.ord _ (jjx.2 ⟨p,hp,rfl⟩))]
 by_cases hg:Ej (2*q.1) (2*q.2) (tw p) =true
 ·rw [if_pos hg,hg]
  have ha:vd (tw p) (2*q.2) =true:=by unfold Ej at hg;rw [jjl] at hg;exact hg.1
  have ha2:=qU.1 ha
  have hl:p.ay<p.b_y:=by
   have e1: (tw p).ay=2*p.ay:=rfl
   have e2: (tw p).b_y=2*p.b_y:=rfl
   omega
  have hmid:vd (tw p) (vh p) =true:=qU.2 (by
   have e1: (tw p).ay=2*p.ay:=rfl
   have e2: (tw p).b_y=2*p.b_y:=rfl
   unfold vh
   omega)
  have hm:tw p∈K.map tw:=jjx.2 ⟨p,hp,rfl⟩
  have k1: (kZ E p).left=KI (K.map tw) (Qo (E.map tw)) (tw p) (2*q.2) +Qo (E.map tw) (tw p)∧(kZ E p).right=KI (K.map tw) (Qo (E.map tw)) (tw p) (2*q.2) :=by
   unfold kZ
   rw [if_neg Om,hE.out hp hl,Li,Y2 hE.net hm ha hmid]
   exact⟨rfl,rfl⟩
  have k2: (kZ F p).left=KI (K.map tw) (Qo (F.map tw)) (tw p) (2*q.2) +Qo (F.map tw) (tw p)∧(kZ F p).right=KI (K.map tw) (Qo (F.map tw)) (tw p) (2*q.2) :=by
   unfold kZ
   rw [if_neg Om,hF.out hp hl,Li,Y2 hF.net hm ha hmid]
   exact⟨rfl,rfl⟩
  rw [k1.1,k1.2,k2.1,k2.2]
  have:ix true=1:=rfl
  rw [this,jkP]
 ·rw [if_neg hg]
  have:Ej (2*q.1) (2*q.2) (tw p) =false:=by simpa using hg
  rw [this]
  exact jkT _
section vertex
variable {K:List Leg} {N M:Leg→Int} {X Y:Int}
def Dh (X Y W:Int) (s:Bool) (e:Leg) :Bool:=vd e W&& (if s=true then decide (X*den e≤num e Y) else decide (X*den e<num e Y))
theorem Sx (h:SepE e p) (he:vd e W=true) (hp:vd p W=true) (hr:xz e p=true) (h1:W≤Y) (h2:Y≤e.b_y) (h3:Y≤p.b_y) :0≤Vj e p Y:=by
 have a1:=qU.1 he
 have a2:=qU.1 hp
 have de:0<den e:=by unfold den;omega
 have dp:0<den p:=by unfold den;omega
 have hL:ut e p≤W:=by unfold ut;omega
 have hU:Y≤uG e p:=by unfold uG;omega
 have hU2:W<uG e p:=by unfold uG;omega
 have hs:=h.side de dp Om
 unfold xz at hr
 rw [decide_eq_true_iff] at hr
 have l1:=VD e p (ut e p) Y
 have l3:=VD e p (ut e p) (uG e p)
 generalize Vj e p (ut e p) =a at*
 generalize Vj e p (uG e p) =b at*
 generalize Vj e p Y=c at*
 generalize ut e p=L at*
 generalize uG e p=U at*
 generalize RI e p=s at*
 have main:c* (U- L) =a* (U- Y) +b* (Y- L) :=by
  have:b=a+s* (U- L) :=l3
  rw [l1,this];grind
 have m1:=jjD (show 0≤a by omega) (show 0≤U- Y by omega)
 have m2:=jjD (show 0≤b by omega) (show 0≤Y- L by omega)
 rcases jk5 c 0 with hc | hc
 ·have:=jke hc (show 0<U- L by omega)
  omega
 ·exact hc
theorem jet (h:Net K N) (X:Int) (s:Bool) (hW:W≤Y) (hY:∀e∈K,vd e W=true→Y≤e.b_y) :UpR K (K.filter (Dh X Y W s)) W where
 sub:=fun e he=>by
  have:=jkc.1 he
  refine⟨this.1,?_⟩
  have h2:=this.2
  unfold Dh at h2
  rw [jjl] at h2
  exact h2.1
 nd:=h.nd.filter _
 all:=fun p hp e he ha hr=>by
  obtain ⟨hpK,hp2⟩ :=jkc.1 hp
  unfold Dh at hp2
  rw [jjl] at hp2
  refine jkc.2 ⟨he,?_⟩
  unfold Dh
  rw [ha,jjG]
  by_cases hep:e=p
  ·rw [hep];exact hp2.2
  ·have h0:=Sx (h.sep e he p hpK hep) ha hp2.1 hr hW (hY e he ha) (hY p hpK hp2.1)
   have de:0<den e:=by have:=qU.1 ha;unfold den;omega
   have dp:0<den p:=by have:=qU.1 hp2.1;unfold den;omega
   have h1:num p Y*den e≤num e Y*den p:=by unfold Vj at h0;omega
   cases s with
   | true=>
    have h2:=hp2.2
    rw [if_pos rfl,decide_eq_true_iff] at h2⊢
    have h3:=jjn h2 (jj7 de)
    have h4:X*den e*den p≤num e Y*den p:=by
     have:X*den e*den p=X*den p*den e:=by grind
     omega
    exact jjY h4 dp
   | false=>
    have h2:=hp2.2
    rw [if_neg Dc,decide_eq_true_iff] at h2⊢
    have h3:=jjE h2 de
    have h4:X*den e*den p<num e Y*den p:=by
     have:X*den e*den p=X*den p*den e:=by grind
     omega
    exact jjV h4 (jj7 dp)
theorem jau (h:Net K N) (he2:∀e∈K,(∃a,e.ay=2*a)∧∃b,e.b_y=2*b) (X:Int) (hY:∃y,Y=2*y) (s:Bool) :
  sm N (K.filter (Dh X Y Y s)) - sm N (K.filter (Dh X Y (Y- 1) s)) =sm (fun e=>N e*ix (decide (e.ay=e.b_y) &&decide (e.ay=Y) && (if s=true then decide (e.ax<X) &&decide (X≤e.bx) else decide (e.ax≤X) &&decide (X<e.bx)))) K:=by
 obtain ⟨y,hy⟩ :=hY
 have hc:=h.close (fun x' y'=>ix (decide (y'=Y) && (if s=true then decide (X≤x') else decide (X<x'))))
 rw [←uO,←uO,←yM]
 have key:sm (fun e=> (N e*ix (Dh X Y Y s e) - N e*ix (Dh X Y (Y- 1) s e)) - N e*ix (decide (e.ay=e.b_y) &&decide (e.ay=Y) && (if s=true then decide (e.ax<X) &&decide (X≤e.bx) else decide (e.ax≤X) &&decide (X<e.bx)))) K
   =sm (fun e=>N e* (ix (decide (e.ay=Y) && (if s=true then decide (X≤e.ax) else decide (X<e.ax))) - ix (decide (e.b_y=Y) && (if s=true then decide (X≤e.bx) else decide (X<e.bx))))) K:=by
  refine J0 fun e he=> ?_
  obtain ⟨⟨a,ha⟩,b,hb⟩ :=he2 e he
  have ho:=h.ord e he
  have ho2:e.ay<e.b_y∨(e.ay=e.b_y∧e.ax<e.bx) :=ho
  have main:ix (Dh X Y Y s e) - ix (Dh X Y (Y- 1) s e) - ix (decide (e.ay=e.b_y) &&decide (e.ay=Y) && (if s=true then decide (e.ax<X) &&decide (X≤e.bx) else decide (e.ax≤X) &&decide (X<e.bx))) =ix (decide (e.ay=Y) && (if s=true then decide (X≤e.ax) else decide (X<e.ax))) - ix (decide (e.b_y=Y) && (if s=true then decide (X≤e.bx) else decide (X<e.bx))) :=by
   unfold Dh vd
   rcases ho2 with hlt |⟨heq,hx⟩
   ·have de:0<den e:=by unfold den;omega
    have nA:e.ay=Y→(X*den e≤num e Y↔X≤e.ax)∧(X*den e<num e Y↔X<e.ax) :=fun k=>by
     rw [←k,O1]
     exact⟨⟨fun q=>jjY q de,fun q=>jjn q (jj7 de)⟩,⟨fun q=>jjV q (jj7 de),fun q=>jjE q de⟩⟩
    have nB:e.b_y=Y→(X*den e≤num e Y↔X≤e.bx)∧(X*den e<num e Y↔X<e.bx) :=fun k=>by
     rw [←k,O2]
     exact⟨⟨fun q=>jjY q de,fun q=>jjn q (jj7 de)⟩,⟨fun q=>jjV q (jj7 de),fun q=>jjE q de⟩⟩
    have hne:decide (e.ay=e.b_y) =false:=decide_eq_false Om
    rw [hne]
    simp only [jjU]
    have z:ix false=0:=rfl
    rw [z]
    by_cases kA:e.ay=Y
    ·have r1:decide (e.ay≤Y) =true:=decide_eq_true Om
     have r2:decide (Y<e.b_y) =true:=decide_eq_true Om
     have r3:decide (e.ay≤Y- 1) =false:=decide_eq_false Om
     have r4:decide (e.b_y=Y) =false:=decide_eq_false Om
     have r5:decide (e.ay=Y) =true:=decide_eq_true kA
     rw [r1,r2,r3,r4,r5]
     obtain ⟨n1,n2⟩ :=nA kA
     cases s
     ·simp only [jjU,jjG,Bool.and_self,z,n2,if_neg (show¬false=true by decide)]
      omega
     ·simp only [jjU,jjG,Bool.and_self,z,n1,if_true]
      omega
    ·have r5:decide (e.ay=Y) =false:=decide_eq_false kA
     rw [r5]
     by_cases kB:e.b_y=Y
     ·have r1:decide (Y<e.b_y) =false:=decide_eq_false Om
      have r2:decide (e.ay≤Y- 1) =true:=decide_eq_true Om
      have r3:decide (Y- 1<e.b_y) =true:=decide_eq_true Om
      have r4:decide (e.b_y=Y) =true:=decide_eq_true kB
      rw [r1,r2,r3,r4]
      obtain ⟨n1,n2⟩ :=nB kB
      cases s
      ·simp only [jjU,jjG,jkW,Bool.and_self,z,n2,if_neg (show¬false=true by decide)]
       omega
      ·simp only [jjU,jjG,jkW,Bool.and_self,z,n1,if_true]
       omega
     ·have r4:decide (e.b_y=Y) =false:=decide_eq_false kB
      have r6:decide (e.ay≤Y) =decide (e.ay≤Y- 1) :=by rw [jjT,decide_eq_true_iff,decide_eq_true_iff];omega
      have r7:decide (Y<e.b_y) =decide (Y- 1<e.b_y) :=by rw [jjT,decide_eq_true_iff,decide_eq_true_iff];omega
      rw [r4,r6,r7]
      simp only [jjU,z]
      omega
   ·have r1:∀W,(decide (e.ay≤W) &&decide (W<e.b_y)) =false:=fun W=>by
     by_cases k:e.ay≤W
     ·rw [decide_eq_false (show¬W<e.b_y by omega),jkW]
     ·rw [decide_eq_false k,jjU]
    rw [r1,r1]
    have r2:decide (e.ay=e.b_y) =true:=decide_eq_true heq
    have r3:decide (e.b_y=Y) =decide (e.ay=Y) :=by rw [heq]
    rw [r2,r3]
    simp only [jjU,jjG]
    cases decide (e.ay=Y) with
    | false=>simp only [jjU];rfl
    | true=>
     simp only [jjG]
     unfold ix
     cases s<;>simp only [if_true,if_neg (show¬false=true by decide),if_neg (show¬(false=true) by decide),jjl,decide_eq_true_eq] <;> (repeat' split) <;>omega
  rw [←main]
  grind
 rw [hc,yM] at key
 omega
end vertex
theorem jam :∀e∈K.map tw,(∃a,e.ay=2*a)∧∃b,e.b_y=2*b:=fun e he=>by
 obtain ⟨p,_,rfl⟩ :=jjx.1 he
 exact⟨⟨p.ay,rfl⟩,p.b_y,rfl⟩
theorem vN (h:Net K N) {X:Int} (h0:e0∈K) (hv: (e0.ax=X∧e0.ay=Y)∨(e0.bx=X∧e0.b_y=Y)) (he:e∈K) (h1:e.ay<Y) (h2:Y<e.b_y) (hn:num e Y=X*den e) :False:=by
 have hne:e0≠e:=fun k=>by rw [k] at hv;omega
 have hs:=h.sep e0 h0 e he hne
 have de:0<den e:=by unfold den;omega
 rcases hv with⟨v1,v2⟩ |⟨v1,v2⟩
 ·exact hs.endA de Om Om (by rw [v1,v2];exact hn.symm)
 ·exact hs.endB de Om Om (by rw [v1,v2];exact hn.symm)
def dg (g:Int→Int→Int) (K:List Leg) (N M:Leg→Int) (W:Int) (p:Leg) :Int:=g (KI K N p W+N p) (KI K M p W+M p) - g (KI K N p W) (KI K M p W)
theorem Nd (hN:Net K N) (hM:Net K M) (g:Int→Int→Int) (X:Int) (hW:W≤Y) (hY:∀e∈K,vd e W=true→Y≤e.b_y) :
  sm (fun p=>dg g K N M W p*ix (vd p W&&decide (X*den p=num p Y))) K=g (sm N (K.filter (Dh X Y W true))) (sm M (K.filter (Dh X Y W true))) - g (sm N (K.filter (Dh X Y W false))) (sm M (K.filter (Dh X Y W false))) :=by
 have r1:=ray hN hM (jet hN X true hW hY) g
 have r2:=ray hN hM (jet hN X false hW hY) g
 have e:sm (fun p=>dg g K N M W p*ix (vd p W&&decide (X*den p=num p Y))) K=sm (dg g K N M W) (K.filter (Dh X Y W true)) - sm (dg g K N M W) (K.filter (Dh X Y W false)) :=by
  rw [LP,LP,←yM]
  refine J0 fun p _=> ?_
  unfold Dh ix
  cases vd p W with
  | false=>simp
  | true=>
   simp only [jjG,if_true,decide_eq_true_eq,if_neg (show¬(false=true) by decide)]
   by_cases a:X*den p=num p Y
   ·rw [if_pos a,if_pos Om,if_neg Om];omega
   ·rw [if_neg a]
    by_cases b:X*den p<num p Y
    ·rw [if_pos Om,if_pos b];omega
    ·rw [if_neg Om,if_neg b];omega
 rw [e]
 unfold dg
 rw [r1,r2]
 omega
def RA (K:List Leg) (N:Leg→Int) (X Y W:Int) (s:Bool) :Int:=sm N (K.filter (Dh X Y W s))
theorem ZN (h:p∈K) :tw p∈K.map tw:=jjx.2 ⟨p,h,rfl⟩
theorem Pa {q:Bool} (h:q=true→a=b) :a*ix q=b*ix q:=by
 cases q with
 | false=>simp [ix]
 | true=>rw [h rfl]
theorem Keys.lev_out (h:Keys K E) (hp:p∈K) (hl:p.ay=p.b_y) (s:Bool) {X:Int} (hX:X=if s=true then 2*p.bx else 2*p.ax) :
  WX E p=RA (K.map tw) (Qo (E.map tw)) X (2*p.ay) (2*p.ay) s:=by
 have hx:p.ax<p.bx:=by have:=h.ord p hp;have:p.ay<p.b_y∨(p.ay=p.b_y∧p.ax<p.bx) :=this;omega
 have hr:=GC (K:=K.map tw) h.net.nd (fun e=>if e=tw p then 0 else QB e (vQ p) (vh p)) (E.map tw) (fun e he=>by
   obtain ⟨e0,he0,rfl⟩ :=jjx.1 he
   rw [yO]
   exact jjx.2 ⟨_,h.all e0 he0,rfl⟩)
 have e1:WX E p=sm (fun e=>sg e* (if Q3 e=tw p then 0 else QB (Q3 e) (vQ p) (vh p))) (E.map tw) :=by
  rw [wV]
  unfold WX
  refine J0 fun e _=> ?_
  rw [yO,FY]
  by_cases k:Q3 e=p
  ·rw [if_pos k,if_pos (by rw [k])];simp
  ·rw [if_neg k,if_neg (fun c=>k (BT c)),←Ll (tw e),yO,FY]
 rw [e1,hr]
 unfold RA
 rw [←uO]
 refine J0 fun e he=> ?_
 congr 1
 obtain ⟨e0,he0,rfl⟩ :=jjx.1 he
 by_cases hep:e0=p
 ·rw [if_pos (by rw [hep]),hep]
  have:vd (tw p) (2*p.ay) =false:=by
   cases k:vd (tw p) (2*p.ay) with
   | false=>rfl
   | true=>
    have:= (qU.1 k).2
    have e2: (tw p).b_y=2*p.b_y:=rfl
    omega
  unfold Dh
  rw [this]
  rfl
 ·rw [if_neg (fun c=>hep (BT c)),GY (h.net.ord _ he)]
  congr 1
  have hm:vh p=2*p.ay:=by unfold vh;omega
  rw [hm]
  unfold Ej Dh
  cases ha:vd (tw e0) (2*p.ay) with
  | false=>rfl
  | true=>
   rw [jjG,jjG]
   have ha2:=qU.1 ha
   have de:0<den (tw e0) :=by unfold den;omega
   have hs:= (jgt (h.sepl e0 he0 p hp hep)).lev (by show 2*p.ay=2*p.b_y;omega) de (by show _≤2*p.ay;omega) (by show 2*p.ay≤_;omega)
   have q1: (tw p).ay=2*p.ay:=rfl
   have q2: (tw p).ax=2*p.ax:=rfl
   have q3: (tw p).bx=2*p.bx:=rfl
   rw [q1,q2,q3] at hs
   have m1:2*p.ax*den (tw e0) <vQ p*den (tw e0) :=jjE (by unfold vQ;omega) de
   have m2:vQ p*den (tw e0) <2*p.bx*den (tw e0) :=jjE (by unfold vQ;omega) de
   cases s with
   | true=>
    rw [if_pos rfl] at hX
    rw [if_pos rfl,hX,jjT,decide_eq_true_iff,decide_eq_true_iff]
    omega
   | false=>
    rw [if_neg Dc] at hX
    rw [if_neg Dc,hX,jjT,decide_eq_true_iff,decide_eq_true_iff]
    omega
theorem Keys.cover (h:Keys K E) (h0:e0∈K) (hv:lA e0=v∨lB e0=v) (s:Bool) :
  RA (K.map tw) (Qo (E.map tw)) (2*v.1) (2*v.2) (2*v.2) s- RA (K.map tw) (Qo (E.map tw)) (2*v.1) (2*v.2) (2*v.2- 1) s
   =sm (fun p=>Qo E p*ix (decide (p.ay=p.b_y) &&decide ((if s=true then lB p else lA p) =v))) K:=by
 unfold RA
 rw [jau h.net jam (2*v.1) ⟨v.2,rfl⟩ s,wV]
 refine J0 fun p hp=> ?_
 rw [Li]
 congr 1
 congr 1
 have q0: (tw p).b_y=2*p.b_y:=rfl
 have q1: (tw p).ay=2*p.ay:=rfl
 have q2: (tw p).ax=2*p.ax:=rfl
 have q3: (tw p).bx=2*p.bx:=rfl
 rw [q0,q1,q2,q3]
 have ho:p.ay<p.b_y∨(p.ay=p.b_y∧p.ax<p.bx) :=h.ord p hp
 have main:p.ay=p.b_y→p.ay=v.2→¬(p.ax<v.1∧v.1<p.bx) :=fun k1 k2 k3=>by
  have hne:e0≠p:=fun c=>by
   rw [c] at hv
   rcases hv with c | c
   ·have:=congrArg Prod.fst c
    simp only [lA] at this
    omega
   ·have:=congrArg Prod.fst c
    simp only [lB] at this
    omega
  have hs:=h.sepl e0 h0 p hp hne
  have ho0:e0.ay<e0.b_y∨(e0.ay=e0.b_y∧e0.ax<e0.bx) :=h.ord e0 h0
  rcases hv with c | c
  ·have c1:e0.ax=v.1:=congrArg Prod.fst c
   have c2:e0.ay=v.2:=congrArg Prod.snd c
   rcases ho0 with d |⟨d1,d2⟩
   ·have de:0<den e0:=by unfold den;omega
    have hh:=hs.lev k1 de Om Om
    have e1:num e0 p.ay=e0.ax*den e0:=by rw [show p.ay=e0.ay by omega,O1]
    rw [e1] at hh
    have m1:p.ax*den e0<e0.ax*den e0:=jjE Om de
    have m2:e0.ax*den e0<p.bx*den e0:=jjE Om de
    omega
   ·have hh:=hs.lev2 k1 d1 Om
    omega
  ·have c1:e0.bx=v.1:=congrArg Prod.fst c
   have c2:e0.b_y=v.2:=congrArg Prod.snd c
   rcases ho0 with d |⟨d1,d2⟩
   ·have de:0<den e0:=by unfold den;omega
    have hh:=hs.lev k1 de Om Om
    have e1:num e0 p.ay=e0.bx*den e0:=by rw [show p.ay=e0.b_y by omega,O2]
    rw [e1] at hh
    have m1:p.ax*den e0<e0.bx*den e0:=jjE Om de
    have m2:e0.bx*den e0<p.bx*den e0:=jjE Om de
    omega
   ·have hh:=hs.lev2 k1 d1 Om
    omega
 by_cases k1:p.ay=p.b_y
 ·have d1:decide (2*p.ay=2*p.b_y) =true:=decide_eq_true Om
  have d2:decide (p.ay=p.b_y) =true:=decide_eq_true k1
  rw [d1,d2,jjG,jjG,jjT,jjl,decide_eq_true_iff]
  have mm:=main k1
  cases s with
  | true=>
   simp only [if_true,jjl,decide_eq_true_eq]
   constructor
   ·rintro⟨a1,a2,a3⟩
    have:=mm Om
    exact Prod.ext (by show p.bx=v.1;omega) (by show p.b_y=v.2;omega)
   ·intro c
    have c1:p.bx=v.1:=congrArg Prod.fst c
    have c2:p.b_y=v.2:=congrArg Prod.snd c
    omega
  | false=>
   simp only [if_neg (show¬(false=true) by decide),jjl,decide_eq_true_eq]
   constructor
   ·rintro⟨a1,a2,a3⟩
    have:=mm Om
    exact Prod.ext (by show p.ax=v.1;omega) (by show p.ay=v.2;omega)
   ·intro c
    have c1:p.ax=v.1:=congrArg Prod.fst c
    have c2:p.ay=v.2:=congrArg Prod.snd c
    omega
 ·have d1:decide (2*p.ay=2*p.b_y) =false:=decide_eq_false Om
  have d2:decide (p.ay=p.b_y) =false:=decide_eq_false k1
  rw [d1,d2]
  rfl
theorem Keys.lev_one (h:Keys K E) (s:Bool) {q:Leg} (hp:p∈K) (hq:q∈K) (lp:p.ay=p.b_y) (lq:q.ay=q.b_y) (ep: (if s=true then lB p else lA p) =v) (eq: (if s=true then lB q else lA q) =v) :q=p:=by
 refine Decidable.byContradiction fun hne=> ?_
 have hs:= (h.sepl q hq p hp hne).lev2 lp lq
 have op:p.ay<p.b_y∨(p.ay=p.b_y∧p.ax<p.bx) :=h.ord p hp
 have oq:q.ay<q.b_y∨(q.ay=q.b_y∧q.ax<q.bx) :=h.ord q hq
 have e2:=ep.trans eq.symm
 cases s with
 | true=>
  simp only [if_true,lB,Prod.mk.injEq] at e2
  have:=hs Om
  omega
 | false=>
  simp only [if_neg (show¬(false=true) by decide),lA,Prod.mk.injEq] at e2
  have:=hs Om
  omega
theorem La (hn:K.Nodup) (q:Leg→Bool) (F:Leg→Int) (hq:∀a∈K,∀b∈K,q a=true→q b=true→b=a) :
  (∃p∈K,q p=true∧sm (fun e=>F e*ix (q e)) K=F p)∨((∀p∈K,q p=false)∧sm (fun e=>F e*ix (q e)) K=0) :=by
 by_cases h:∃p∈K,q p=true
 ·obtain ⟨p,hp,hqp⟩ :=h
  refine .inl ⟨p,hp,hqp,?_⟩
  rw [←BB hn hp F]
  refine J0 fun e he=> ?_
  by_cases hpe:p=e
  ·rw [if_pos hpe,←hpe,hqp];simp [ix]
  ·rw [if_neg hpe]
   cases k:q e with
   | false=>simp [ix]
   | true=>exact absurd (hq p hp e he hqp k).symm hpe
 ·have hall:∀p∈K,q p=false:=fun p hp=>by
   cases k:q p with
   | false=>rfl
   | true=>exact absurd ⟨p,hp,k⟩ h
  refine .inr ⟨hall,?_⟩
  rw [←uf K]
  refine J0 fun e he=> ?_
  rw [hall e he]
  simp [ix]
def cB (E F:List Leg) (how:Int) (p:Leg) :Int:=ix (Qg (kZ E p).left (kZ F p).left how) - ix (Qg (kZ E p).right (kZ F p).right how)
def gW (how a b:Int) :Int:=ix (Qg a b how)
theorem Th (hE:Keys K E) (hF:Keys K F) (h0:e0∈K) (hv:lA e0=v∨lB e0=v) (s:Bool) :
  sm (fun p=>cB E F how p*ix (decide (p.ay=p.b_y) &&decide ((if s=true then lB p else lA p) =v))) K
   =gW how (RA (K.map tw) (Qo (E.map tw)) (2*v.1) (2*v.2) (2*v.2) s) (RA (K.map tw) (Qo (F.map tw)) (2*v.1) (2*v.2) (2*v.2) s)
    - gW how (RA (K.map tw) (Qo (E.map tw)) (2*v.1) (2*v.2) (2*v.2- 1) s) (RA (K.map tw) (Qo (F.map tw)) (2*v.1) (2*v.2) (2*v.2- 1) s) :=by
 have c1:=hE.cover h0 hv s
 have c2:=hF.cover h0 hv s
 have one:∀a∈K,∀b∈K,(decide (a.ay=a.b_y) &&decide ((if s=true then lB a else lA a) =v)) =true→(decide (b.ay=b.b_y) &&decide ((if s=true then lB b else lA b) =v)) =true→b=a:=fun a ha b hb qa qb=>by
  rw [jjl,decide_eq_true_iff,decide_eq_true_iff] at qa qb
  exact hE.lev_one s ha hb qa.1 qb.1 qa.2 qb.2
 rcases La hE.nd (fun p=>decide (p.ay=p.b_y) &&decide ((if s=true then lB p else lA p) =v)) (cB E F how) one with⟨p,hp,hq,e⟩ |⟨hall,e⟩
 ·rw [e]
  have n1:Qo E p=sm (fun p=>Qo E p*ix (decide (p.ay=p.b_y) &&decide ((if s=true then lB p else lA p) =v))) K:=by
   rcases La hE.nd (fun p=>decide (p.ay=p.b_y) &&decide ((if s=true then lB p else lA p) =v)) (Qo E) one with⟨p',hp',hq',e'⟩ |⟨hall,_⟩
   ·rw [e',one p hp p' hp' hq hq']
   ·rw [hall p hp] at hq;cases hq
  have n2:Qo F p=sm (fun p=>Qo F p*ix (decide (p.ay=p.b_y) &&decide ((if s=true then lB p else lA p) =v))) K:=by
   rcases La hE.nd (fun p=>decide (p.ay=p.b_y) &&decide ((if s=true then lB p else lA p) =v)) (Qo F) one with⟨p',hp',hq',e'⟩ |⟨hall,_⟩
   ·rw [e',one p hp p' hp' hq hq']
   ·rw [hall p hp] at hq;cases hq
  rw [←n1] at c1
  rw [←n2] at c2
  rw [jjl,decide_eq_true_iff,decide_eq_true_iff] at hq
  obtain ⟨hl,hpv⟩ :=hq
  have hy:p.ay=v.2:=by
   cases s with
   | true=>simp only [if_true] at hpv;have:p.b_y=v.2:=congrArg Prod.snd hpv;omega
   | false=>simp only [if_neg (show¬(false=true) by decide)] at hpv;exact congrArg Prod.snd hpv
  have hX:2*v.1=if s=true then 2*p.bx else 2*p.ax:=by
   cases s with
   | true=>simp only [if_true] at hpv⊢;have:p.bx=v.1:=congrArg Prod.fst hpv;omega
   | false=>simp only [if_neg (show¬(false=true) by decide)] at hpv⊢;have:p.ax=v.1:=congrArg Prod.fst hpv;omega
  have o1:=hE.lev_out hp hl s hX
  have o2:=hF.lev_out hp hl s hX
  rw [hy] at o1 o2
  unfold cB gW kZ
  rw [if_pos hl,if_pos hl]
  show ix (Qg (WX E p) (WX F p) how) - ix (Qg (WX E p- Qo E p) (WX F p- Qo F p) how) =_
  rw [o1,o2] at*
  rw [show RA (K.map tw) (Qo (E.map tw)) (2*v.1) (2*v.2) (2*v.2) s- Qo E p=RA (K.map tw) (Qo (E.map tw)) (2*v.1) (2*v.2) (2*v.2- 1) s by omega,
   show RA (K.map tw) (Qo (F.map tw)) (2*v.1) (2*v.2) (2*v.2) s- Qo F p=RA (K.map tw) (Qo (F.map tw)) (2*v.1) (2*v.2) (2*v.2- 1) s by omega]
 ·rw [e]
  have z:∀f:Leg→Int,sm (fun p=>f p*ix (decide (p.ay=p.b_y) &&decide ((if s=true then lB p else lA p) =v))) K=0:=fun f=>by
   rw [←uf K]
   refine J0 fun p hp=> ?_
   rw [show(decide (p.ay=p.b_y) &&decide ((if s=true then lB p else lA p) =v)) =false from hall p hp]
   simp [ix]
  rw [z] at c1 c2
  rw [show RA (K.map tw) (Qo (E.map tw)) (2*v.1) (2*v.2) (2*v.2) s=RA (K.map tw) (Qo (E.map tw)) (2*v.1) (2*v.2) (2*v.2- 1) s by omega,
   show RA (K.map tw) (Qo (F.map tw)) (2*v.1) (2*v.2) (2*v.2) s=RA (K.map tw) (Qo (F.map tw)) (2*v.1) (2*v.2) (2*v.2- 1) s by omega]
  omega
def UN (v p:Pn) :Int:=ix (decide (p=v))
theorem Keys.cB_dg (hE:Keys K E) (hF:Keys K F) (hp:p∈K) (ha:vd (tw p) W=true) :
  cB E F how p=dg (gW how) (K.map tw) (Qo (E.map tw)) (Qo (F.map tw)) W (tw p) :=by
 have ha2:=qU.1 ha
 have e1: (tw p).ay=2*p.ay:=rfl
 have e2: (tw p).b_y=2*p.b_y:=rfl
 have hl:p.ay<p.b_y:=by omega
 have hmid:vd (tw p) (vh p) =true:=qU.2 (by unfold vh;omega)
 unfold cB dg gW kZ
 rw [if_neg Om,if_neg Om]
 show ix (Qg (WX E p+Qo E p) (WX F p+Qo F p) how) - ix (Qg (WX E p) (WX F p) how) =_
 rw [hE.out hp hl,hF.out hp hl,Li,Li,Y2 hE.net (ZN hp) ha hmid,Y2 hF.net (ZN hp) ha hmid]
theorem xH (hE:Keys K E) (hF:Keys K F) (v:Pn) :sm (fun l=>UN v (lA l) - UN v (lB l)) (KK K E F how) =0:=by
 unfold KK
 rw [Z7]
 have e1:sm (fun p=>sm (fun l=>UN v (lA l) - UN v (lB l)) (zK p (Qg (kZ E p).left (kZ F p).left how) (Qg (kZ E p).right (kZ F p).right how))) K=sm (fun p=>cB E F how p* (UN v (lA p) - UN v (lB p))) K:=by
  refine J0 fun p _=> ?_
  rw [GL p _ _ _ (by show UN v (lB p) - UN v (lA p) =_;omega)]
  rfl
 rw [e1]
 by_cases hex:∃e0∈K,lA e0=v∨lB e0=v
 ·obtain ⟨e0,h0,hv⟩ :=hex
  have hv': ((tw e0).ax=2*v.1∧(tw e0).ay=2*v.2)∨((tw e0).bx=2*v.1∧(tw e0).b_y=2*v.2) :=by
   rcases hv with k | k
   ·have k1:e0.ax=v.1:=congrArg Prod.fst k
    have k2:e0.ay=v.2:=congrArg Prod.snd k
    exact .inl ⟨by show 2*e0.ax=_;omega,by show 2*e0.ay=_;omega⟩
   ·have k1:e0.bx=v.1:=congrArg Prod.fst k
    have k2:e0.b_y=v.2:=congrArg Prod.snd k
    exact .inr ⟨by show 2*e0.bx=_;omega,by show 2*e0.b_y=_;omega⟩
  have t1:=Nd hE.net hF.net (gW how) (2*v.1) (Y:=2*v.2) (W:=2*v.2) (jlg _) (fun e _ ha=>by have:=qU.1 ha;omega)
  have t2:=Nd hE.net hF.net (gW how) (2*v.1) (Y:=2*v.2) (W:=2*v.2- 1) Om (fun e _ ha=>by have:=qU.1 ha;omega)
  have l1:=Th (how:=how) hE hF h0 hv false
  have l2:=Th (how:=how) hE hF h0 hv true
  rw [wV] at t1 t2
  have parts:sm (fun p=>cB E F how p* (UN v (lA p) - UN v (lB p))) K
    =sm (fun p=>dg (gW how) (K.map tw) (Qo (E.map tw)) (Qo (F.map tw)) (2*v.2) (tw p) *ix (vd (tw p) (2*v.2) &&decide (2*v.1*den (tw p) =num (tw p) (2*v.2)))) K
    - sm (fun p=>dg (gW how) (K.map tw) (Qo (E.map tw)) (Qo (F.map tw)) (2*v.2- 1) (tw p) *ix (vd (tw p) (2*v.2- 1) &&decide (2*v.1*den (tw p) =num (tw p) (2*v.2)))) K
    +sm (fun p=>cB E F how p*ix (decide (p.ay=p.b_y) &&decide ((if false=true then lB p else lA p) =v))) K
    - sm (fun p=>cB E F how p*ix (decide (p.ay=p.b_y) &&decide ((if true=true then lB p else lA p) =v))) K:=by
   rw [←yM,←yL,←yM]
   refine J0 fun p hp=> ?_
   have ho:p.ay<p.b_y∨(p.ay=p.b_y∧p.ax<p.bx) :=hE.ord p hp
   have q1: (tw p).ay=2*p.ay:=rfl
   have q2: (tw p).b_y=2*p.b_y:=rfl
   have q3: (tw p).ax=2*p.ax:=rfl
   have q4: (tw p).bx=2*p.bx:=rfl
   have a1:dg (gW how) (K.map tw) (Qo (E.map tw)) (Qo (F.map tw)) (2*v.2) (tw p) *ix (vd (tw p) (2*v.2) &&decide (2*v.1*den (tw p) =num (tw p) (2*v.2))) =cB E F how p*ix (vd (tw p) (2*v.2) &&decide (2*v.1*den (tw p) =num (tw p) (2*v.2))) :=
    Pa fun h=>by rw [jjl] at h;exact(hE.cB_dg hF hp h.1).symm
   have a2:dg (gW how) (K.map tw) (Qo (E.map tw)) (Qo (F.map tw)) (2*v.2- 1) (tw p) *ix (vd (tw p) (2*v.2- 1) &&decide (2*v.1*den (tw p) =num (tw p) (2*v.2))) =cB E F how p*ix (vd (tw p) (2*v.2- 1) &&decide (2*v.1*den (tw p) =num (tw p) (2*v.2))) :=
    Pa fun h=>by rw [jjl] at h;exact(hE.cB_dg hF hp h.1).symm
   rw [a1,a2]
   have kA:UN v (lA p) =ix (vd (tw p) (2*v.2) &&decide (2*v.1*den (tw p) =num (tw p) (2*v.2))) +ix (decide (p.ay=p.b_y) &&decide ((if false=true then lB p else lA p) =v)) :=by
    rw [if_neg Dc]
    rcases ho with hlt |⟨heq,_⟩
    ·have de:0<den (tw p) :=by unfold den;omega
     have d0:decide (p.ay=p.b_y) =false:=decide_eq_false Om
     rw [d0,jjU]
     have:decide (lA p=v) = (vd (tw p) (2*v.2) &&decide (2*v.1*den (tw p) =num (tw p) (2*v.2))) :=by
      rw [jjT,jjl,decide_eq_true_iff,decide_eq_true_iff,qU]
      constructor
      ·intro k
       have k1:p.ax=v.1:=congrArg Prod.fst k
       have k2:p.ay=v.2:=congrArg Prod.snd k
       refine⟨by omega,?_⟩
       rw [show(2*v.2:Int) = (tw p).ay by omega,O1,show(2*v.1:Int) = (tw p).ax by omega]
      ·rintro⟨⟨k1,k2⟩,k3⟩
       have k4: (tw p).ay=2*v.2:=by
        rcases jkX k1 with c | c
        ·exact(vN hE.net (ZN h0) hv' (ZN hp) c k2 k3.symm).elim
        ·exact c
       rw [←k4,O1] at k3
       have:=Int.eq_of_mul_eq_mul_right (Int.ne_of_gt de) k3
       exact Prod.ext (by show p.ax=v.1;omega) (by show p.ay=v.2;omega)
     unfold UN
     rw [this]
     exact(jk4 _).symm
    ·have d0:decide (p.ay=p.b_y) =true:=decide_eq_true heq
     have d1:vd (tw p) (2*v.2) =false:=by
      cases c:vd (tw p) (2*v.2) with
      | false=>rfl
      | true=> (have:=qU.1 c;omega)
     rw [d0,d1,jjG,jjU]
     exact(Int.zero_add _).symm
   have kB:UN v (lB p) =ix (vd (tw p) (2*v.2- 1) &&decide (2*v.1*den (tw p) =num (tw p) (2*v.2))) +ix (decide (p.ay=p.b_y) &&decide ((if true=true then lB p else lA p) =v)) :=by
    rw [if_pos rfl]
    rcases ho with hlt |⟨heq,_⟩
    ·have de:0<den (tw p) :=by unfold den;omega
     have d0:decide (p.ay=p.b_y) =false:=decide_eq_false Om
     rw [d0,jjU]
     have:decide (lB p=v) = (vd (tw p) (2*v.2- 1) &&decide (2*v.1*den (tw p) =num (tw p) (2*v.2))) :=by
      rw [jjT,jjl,decide_eq_true_iff,decide_eq_true_iff,qU]
      constructor
      ·intro k
       have k1:p.bx=v.1:=congrArg Prod.fst k
       have k2:p.b_y=v.2:=congrArg Prod.snd k
       refine⟨by omega,?_⟩
       rw [show(2*v.2:Int) = (tw p).b_y by omega,O2,show(2*v.1:Int) = (tw p).bx by omega]
      ·rintro⟨⟨k1,k2⟩,k3⟩
       have k4: (tw p).b_y=2*v.2:=by
        rcases jk5 (2*v.2) (tw p).b_y with c | c
        ·exact(vN hE.net (ZN h0) hv' (ZN hp) Om c k3.symm).elim
        ·omega
       rw [←k4,O2] at k3
       have:=Int.eq_of_mul_eq_mul_right (Int.ne_of_gt de) k3
       exact Prod.ext (by show p.bx=v.1;omega) (by show p.b_y=v.2;omega)
     unfold UN
     rw [this]
     exact(jk4 _).symm
    ·have d0:decide (p.ay=p.b_y) =true:=decide_eq_true heq
     have d1:vd (tw p) (2*v.2- 1) =false:=by
      cases c:vd (tw p) (2*v.2- 1) with
      | false=>rfl
      | true=> (have:=qU.1 c;omega)
     rw [d0,d1,jjG,jjU]
     exact(Int.zero_add _).symm
   rw [kA,kB]
   generalize ix (vd (tw p) (2*v.2) &&decide (2*v.1*den (tw p) =num (tw p) (2*v.2))) =z1
   generalize ix (vd (tw p) (2*v.2- 1) &&decide (2*v.1*den (tw p) =num (tw p) (2*v.2))) =z2
   generalize ix (decide (p.ay=p.b_y) &&decide ((if false=true then lB p else lA p) =v)) =z3
   generalize ix (decide (p.ay=p.b_y) &&decide ((if true=true then lB p else lA p) =v)) =z4
   generalize cB E F how p=c
   grind
  rw [parts,t1,t2,l1,l2]
  unfold RA
  omega
 ·rw [←uf K]
  refine J0 fun p hp=> ?_
  have n1:lA p≠v:=fun k=>hex ⟨p,hp, .inl k⟩
  have n2:lB p≠v:=fun k=>hex ⟨p,hp, .inr k⟩
  unfold UN
  rw [decide_eq_false n1,decide_eq_false n2]
  simp
structure Meets (e p:Leg) :Prop where
 no:qg (lA e) (lB e) (lA p) (lB p)≠true
 e1:∀q,(q=lA e∨q=lB e)→WW (lA p) (lB p) q=true→q=lA p∨q=lB p
 e2:∀q,(q=lA p∨q=lB p)→WW (lA e) (lB e) q=true→q=lA e∨q=lB e
theorem tnA (p:Leg) (q:Pn) :tn (lA p) (lB p) q=num p q.2- q.1*den p:=by
 show Q0 p.ax p.ay p.bx p.b_y q.1 q.2=_
 exact EN p q.1 q.2
theorem HM (hp:0<den p) (h1:p.ay≤Y) (h2:Y≤p.b_y) (h:num p Y=x*den p) :WW (lA p) (lB p) (x,Y) =true:=by
 have ht:=tnA p (x,Y)
 simp only at ht
 unfold WW DC
 have e0:Q0 (lA p).1 (lA p).2 (lB p).1 (lB p).2 x Y=0:=by
  have:Q0 (lA p).1 (lA p).2 (lB p).1 (lB p).2 x Y=tn (lA p) (lB p) (x,Y) :=rfl
  rw [this,ht,h];omega
 have hd:den p=p.b_y- p.ay:=rfl
 have hx:x*den p=p.ax*den p+ (p.bx- p.ax) * (Y- p.ay) :=by rw [←h];rfl
 have b1:min p.ax p.bx≤x:=by
  refine jkn.1 fun hlt=> ?_
  have k1: (x- p.ax) * (den p- (Y- p.ay)) + (x- p.bx) * (Y- p.ay) =0:=by
   have: (x- p.ax) * (den p- (Y- p.ay)) + (x- p.bx) * (Y- p.ay) =x*den p- (p.ax*den p+ (p.bx- p.ax) * (Y- p.ay)) :=by grind
   omega
  have m1:=jjD (show 0≤p.ax- x- 1 by omega) (show 0≤den p- (Y- p.ay) by omega)
  have m2:=jjD (show 0≤p.bx- x- 1 by omega) (show 0≤Y- p.ay by omega)
  have k2: (p.ax- x- 1) * (den p- (Y- p.ay)) + (p.bx- x- 1) * (Y- p.ay) = -((x- p.ax) * (den p- (Y- p.ay)) + (x- p.bx) * (Y- p.ay)) - den p:=by grind
  omega
 have b2:x≤max p.ax p.bx:=by
  refine jkn.1 fun hlt=> ?_
  have k1: (x- p.ax) * (den p- (Y- p.ay)) + (x- p.bx) * (Y- p.ay) =0:=by
   have: (x- p.ax) * (den p- (Y- p.ay)) + (x- p.bx) * (Y- p.ay) =x*den p- (p.ax*den p+ (p.bx- p.ax) * (Y- p.ay)) :=by grind
   omega
  have m1:=jjD (show 0≤x- p.ax- 1 by omega) (show 0≤den p- (Y- p.ay) by omega)
  have m2:=jjD (show 0≤x- p.bx- 1 by omega) (show 0≤Y- p.ay by omega)
  have k2: (x- p.ax- 1) * (den p- (Y- p.ay)) + (x- p.bx- 1) * (Y- p.ay) = ((x- p.ax) * (den p- (Y- p.ay)) + (x- p.bx) * (Y- p.ay)) - den p:=by grind
  omega
 rw [e0]
 have c1: (lA p).1=p.ax:=rfl
 have c2: (lA p).2=p.ay:=rfl
 have c3: (lB p).1=p.bx:=rfl
 have c4: (lB p).2=p.b_y:=rfl
 rw [c1,c2,c3,c4]
 simp only [jjl,beq_iff_eq,decide_eq_true_eq]
 refine⟨⟨⟨⟨trivial,b1⟩,b2⟩,by omega⟩,by omega⟩
theorem Xo {a b c d:Pn} (h: (0<tn a b c∧tn a b d<0)∨(tn a b c<0∧0<tn a b d)) (k: (0<tn c d a∧tn c d b<0)∨(tn c d a<0∧0<tn c d b)) :qg a b c d=true:=by
 have sp:∀x:Int,0<x→wR x=1:=fun x hx=>by unfold wR;rw [if_neg Om,if_pos hx]
 have sn:∀x:Int,x<0→wR x= -1:=fun x hx=>by unfold wR;rw [if_pos hx]
 unfold qg
 rw [jjl,decide_eq_true_iff,decide_eq_true_iff]
 constructor
 ·rcases h with⟨h1,h2⟩ |⟨h1,h2⟩
  ·rw [sp _ h1,sn _ h2];decide
  ·rw [sn _ h1,sp _ h2];decide
 ·rcases k with⟨h1,h2⟩ |⟨h1,h2⟩
  ·rw [sp _ h1,sn _ h2];decide
  ·rw [sn _ h1,sp _ h2];decide
theorem Ym (hl:p.ay=p.b_y) (h1:p.ax≤x) (h2:x≤p.bx) :WW (lA p) (lB p) (x,p.ay) =true:=by
 unfold WW DC
 have c1: (lA p).1=p.ax:=rfl
 have c2: (lA p).2=p.ay:=rfl
 have c3: (lB p).1=p.bx:=rfl
 have c4: (lB p).2=p.b_y:=rfl
 have e0:Q0 (lA p).1 (lA p).2 (lB p).1 (lB p).2 x p.ay=0:=by
  rw [c1,c2,c3,c4];unfold Q0;rw [←hl];grind
 rw [e0,c1,c2,c3,c4]
 simp only [jjl,beq_iff_eq,decide_eq_true_eq]
 refine⟨⟨⟨⟨trivial,by omega⟩,by omega⟩,by omega⟩,by omega⟩
theorem OW (h1:lA e=lA f) (h2:lB e=lB f) :e=f:=by
 rcases e with⟨a1,a2,a3,a4⟩
 rcases f with⟨b1,b2,b3,b4⟩
 simp only [lA,lB,Prod.mk.injEq] at h1 h2
 rw [h1.1,h1.2,h2.1,h2.2]
theorem jcl (e p:Leg) :Vj e p p.ay=den p* (num e p.ay- p.ax*den e) :=by unfold Vj;rw [O1];grind
theorem jcm (e p:Leg) :Vj e p p.b_y=den p* (num e p.b_y- p.bx*den e) :=by unfold Vj;rw [O2];grind
theorem Ue {d:Int} (hd:0<d) : (0<d*x↔0<x)∧(d*x<0↔x<0)∧(d*x=0↔x=0) :=by
 rcases jj4 x 0 with h | h | h
 ·have:=jkD hd h;omega
 ·rw [h,jkT];omega
 ·have:=jjZ hd h;omega
theorem Tk {c s c':Int} (h:c'=c+s* (Z- Y)) (hs:0≤s) (hle:Z≤Y) (hc:c<0) :c'<0:=by
 have:=jjD hs (show 0≤Y- Z by omega)
 have e:s* (Z- Y) = -(s* (Y- Z)) :=by grind
 omega
theorem Tl {c s c':Int} (h:c'=c+s* (Z- Y)) (hs:0≤s) (hle:Y≤Z) (hc:0<c) :0<c':=by
 have:=jjD hs (show 0≤Z- Y by omega)
 omega
theorem Sq (de:0<den e) (dp:0<den p) {L U:Int} (hLU:L<U) (l1:e.ay≤L) (l2:p.ay≤L) (u1:U≤e.b_y) (u2:U≤p.b_y) (h1:Vj e p L<0) (h2:0<Vj e p U) :qg (lA e) (lB e) (lA p) (lB p) =true:=by
 have hs:0≤RI e p:=by
  have l3:=VD e p L U
  rcases jk5 (RI e p) 0 with h | h
  ·have:=jke h (show 0<U- L by omega);omega
  ·exact h
 have k1:=Tk (VD e p L e.ay) hs l1 h1
 have k2:=Tk (VD e p L p.ay) hs l2 h1
 have k3:=Tl (VD e p U e.b_y) hs u1 h2
 have k4:=Tl (VD e p U p.b_y) hs u2 h2
 rw [Cx,(Ue de).2.1] at k1
 rw [jcl,(Ue dp).2.1] at k2
 rw [jck,(Ue de).1] at k3
 rw [jcm,(Ue dp).1] at k4
 refine Xo (.inr ⟨?_,?_⟩) (.inl ⟨?_,?_⟩) <;>rw [tnA]
 ·exact k2
 ·exact k4
 ·show 0<num p e.ay- e.ax*den p;omega
 ·show num p e.b_y- e.bx*den p<0;omega
theorem WQ (a b c d:Pn) :qg c d a b=qg a b c d:=by unfold qg;rw [Bool.and_comm]
theorem Meets.symm (h:Meets e p) :Meets p e:=⟨by rw [WQ];exact h.no,h.e2,h.e1⟩
theorem jhU (oe:vG (lA e) (lB e)) (op:vG (lA p) (lB p)) (hne:e≠p) (h:Meets e p) :SepE e p:=by
 have oe':e.ay<e.b_y∨(e.ay=e.b_y∧e.ax<e.bx) :=oe
 have op':p.ay<p.b_y∨(p.ay=p.b_y∧p.ax<p.bx) :=op
 have endA:0<den p→p.ay<e.ay→e.ay<p.b_y→e.ax*den p≠num p e.ay:=fun dp h1 h2 k=>by
  have:=h.e1 (e.ax,e.ay) (.inl rfl) (HM dp Om Om k.symm)
  rcases this with c | c
  ·have:e.ay=p.ay:=congrArg Prod.snd c
   omega
  ·have:e.ay=p.b_y:=congrArg Prod.snd c
   omega
 have endB:0<den p→p.ay<e.b_y→e.b_y<p.b_y→e.bx*den p≠num p e.b_y:=fun dp h1 h2 k=>by
  have:=h.e1 (e.bx,e.b_y) (.inr rfl) (HM dp Om Om k.symm)
  rcases this with c | c
  ·have:e.b_y=p.ay:=congrArg Prod.snd c
   omega
  ·have:e.b_y=p.b_y:=congrArg Prod.snd c
   omega
 refine⟨fun de dp hlt=> ?_,endA,endB,fun dp h0 h1 h2=> ?_⟩
 ·have hLa:e.ay≤ut e p:=by unfold ut;omega
  have hLb:p.ay≤ut e p:=by unfold ut;omega
  have hUa:uG e p≤e.b_y:=by unfold uG;omega
  have hUb:uG e p≤p.b_y:=by unfold uG;omega
  have hxe:den e=e.b_y- e.ay:=rfl
  have hxp:den p=p.b_y- p.ay:=rfl
  have no1:¬(Vj e p (ut e p) <0∧0<Vj e p (uG e p)) :=fun k=>h.no (Sq de dp hlt hLa hLb hUa hUb k.1 k.2)
  have no2:¬(0<Vj e p (ut e p)∧Vj e p (uG e p) <0) :=fun k=>by
   have:=Sq dp de hlt hLb hLa hUb hUa (by rw [XQ];omega) (by rw [XQ];omega)
   rw [WQ] at this
   exact h.no this
  have z1:Vj e p (ut e p) =0→lA e=lA p:=fun k=>by
   rcases Int.le_total p.ay e.ay with c | c
   ·have eL:ut e p=e.ay:=by unfold ut;omega
    rw [eL,Cx,(Ue de).2.2] at k
    have:=h.e1 (e.ax,e.ay) (.inl rfl) (HM dp c Om Om)
    rcases this with q | q
    ·exact q
    ·have:e.ay=p.b_y:=congrArg Prod.snd q
     omega
   ·have eL:ut e p=p.ay:=by unfold ut;omega
    rw [eL,jcl,(Ue dp).2.2] at k
    have:=h.e2 (p.ax,p.ay) (.inl rfl) (HM de c Om Om)
    rcases this with q | q
    ·exact q.symm
    ·have:p.ay=e.b_y:=congrArg Prod.snd q
     omega
  have z2:Vj e p (uG e p) =0→lB e=lB p:=fun k=>by
   rcases Int.le_total e.b_y p.b_y with c | c
   ·have eL:uG e p=e.b_y:=by unfold uG;omega
    rw [eL,jck,(Ue de).2.2] at k
    have:=h.e1 (e.bx,e.b_y) (.inr rfl) (HM dp Om c Om)
    rcases this with q | q
    ·have:e.b_y=p.ay:=congrArg Prod.snd q
     omega
    ·exact q
   ·have eL:uG e p=p.b_y:=by unfold uG;omega
    rw [eL,jcm,(Ue dp).2.2] at k
    have:=h.e2 (p.bx,p.b_y) (.inr rfl) (HM de Om c Om)
    rcases this with q | q
    ·have:p.b_y=e.ay:=congrArg Prod.snd q
     omega
    ·exact q.symm
  have z3:¬(Vj e p (ut e p) =0∧Vj e p (uG e p) =0) :=fun k=>hne (OW (z1 k.1) (z2 k.2))
  omega
 ·have a1:=endA dp h1 h2
  have a2:=endB dp Om Om
  rw [←h0] at a2
  rcases jj4 (e.ax*den p) (num p e.ay) with k1 | k1 | k1
  ·rcases jj4 (e.bx*den p) (num p e.ay) with k2 | k2 | k2
   ·exact .inr ⟨k1,k2⟩
   ·exact absurd k2 a2
   ·exfalso
    refine h.no (Xo (.inr ⟨?_,?_⟩) (.inl ⟨?_,?_⟩))
    ·show Q0 e.ax e.ay e.bx e.b_y p.ax p.ay<0
     unfold Q0
     have:=jkD (show 0<e.bx- e.ax by omega) (show p.ay- e.ay<0 by omega)
     have e0: (e.b_y- e.ay) * (p.ax- e.ax) =0:=by rw [h0];grind
     omega
    ·show 0<Q0 e.ax e.ay e.bx e.b_y p.bx p.b_y
     unfold Q0
     have:=jjZ (show 0<e.bx- e.ax by omega) (show 0<p.b_y- e.ay by omega)
     have e0: (e.b_y- e.ay) * (p.bx- e.ax) =0:=by rw [h0];grind
     omega
    ·rw [tnA];show 0<num p e.ay- e.ax*den p;omega
    ·rw [tnA];show num p e.b_y- e.bx*den p<0;rw [←h0];omega
  ·exact absurd k1 a1
  ·rcases jj4 (e.bx*den p) (num p e.ay) with k2 | k2 | k2
   ·exfalso
    have:=jjE (show e.ax<e.bx by omega) dp
    omega
   ·exact absurd k2 a2
   ·exact .inl ⟨k1,k2⟩
theorem jge (oe:vG (lA e) (lB e)) (op:vG (lA p) (lB p)) (hne:e≠p) (h:Meets e p) :SepL e p:=by
 have oe':e.ay<e.b_y∨(e.ay=e.b_y∧e.ax<e.bx) :=oe
 have op':p.ay<p.b_y∨(p.ay=p.b_y∧p.ax<p.bx) :=op
 constructor
 ·intro hl de h1 h2
  refine Decidable.byContradiction fun hno=> ?_
  have n1:p.ax*den e<num e p.ay:=by omega
  have n2:num e p.ay<p.bx*den e:=by omega
  rcases jkX h1 with c1 | c1
  ·rcases jkX h2 with c2 | c2
   ·refine h.no (Xo (.inl ⟨?_,?_⟩) (.inr ⟨?_,?_⟩))
    ·rw [tnA];show 0<num e p.ay- p.ax*den e;omega
    ·rw [tnA];show num e p.b_y- p.bx*den e<0;rw [←hl];omega
    ·show Q0 p.ax p.ay p.bx p.b_y e.ax e.ay<0
     unfold Q0
     have:=jkD (show 0<p.bx- p.ax by omega) (show e.ay- p.ay<0 by omega)
     have e0: (p.b_y- p.ay) * (e.ax- p.ax) =0:=by rw [hl];grind
     omega
    ·show 0<Q0 p.ax p.ay p.bx p.b_y e.bx e.b_y
     unfold Q0
     have:=jjZ (show 0<p.bx- p.ax by omega) (show 0<e.b_y- p.ay by omega)
     have e0: (p.b_y- p.ay) * (e.bx- p.ax) =0:=by rw [hl];grind
     omega
   ·rw [c2,O2] at n1 n2
    have m1:=jjV n1 (jj7 de)
    have m2:=jjV n2 (jj7 de)
    have:=h.e1 (e.bx,e.b_y) (.inr rfl) (by rw [←c2];exact Ym hl Om Om)
    rcases this with q | q
    ·have:e.bx=p.ax:=congrArg Prod.fst q
     omega
    ·have:e.bx=p.bx:=congrArg Prod.fst q
     omega
  ·rw [←c1,O1] at n1 n2
   have m1:=jjV n1 (jj7 de)
   have m2:=jjV n2 (jj7 de)
   have:=h.e1 (e.ax,e.ay) (.inl rfl) (by rw [c1];exact Ym hl Om Om)
   rcases this with q | q
   ·have:e.ax=p.ax:=congrArg Prod.fst q
    omega
   ·have:e.ax=p.bx:=congrArg Prod.fst q
    omega
 ·intro hl he hy
  refine Decidable.byContradiction fun hno=> ?_
  have a:lA e=lA p:=by
   rcases Int.le_total p.ax e.ax with c | c
   ·have:=h.e1 (e.ax,e.ay) (.inl rfl) (by rw [hy];exact Ym hl c Om)
    rcases this with q | q
    ·exact q
    ·have:e.ax=p.bx:=congrArg Prod.fst q
     omega
   ·have:=h.e2 (p.ax,p.ay) (.inl rfl) (by rw [←hy];exact Ym he c Om)
    rcases this with q | q
    ·exact q.symm
    ·have:p.ax=e.bx:=congrArg Prod.fst q
     omega
  have b:lB e=lB p:=by
   rcases Int.le_total e.bx p.bx with c | c
   ·have:=h.e1 (e.bx,e.b_y) (.inr rfl) (by rw [←he,hy];exact Ym hl Om c)
    rcases this with q | q
    ·have:e.bx=p.ax:=congrArg Prod.fst q
     omega
    ·exact q
   ·have:=h.e2 (p.bx,p.b_y) (.inr rfl) (by rw [←hl,←hy];exact Ym he Om c)
    rcases this with q | q
    ·have:p.bx=e.ax:=congrArg Prod.fst q
     omega
    ·exact q.symm
  exact hne (OW a b)
theorem EJ {α:Type} [DecidableEq α] (lt:α→α→Bool) (N M X:α→Int) (g:Int→Int→Int) (hg:∀a b,0≤g a b) (h0:g 0 0=0) :∀(n:Nat) (R:List α) (x0:Int),R.length=n→R.Nodup→
  (∀a∈R,∀b∈R,a≠b→lt a b=true∨lt b a=true)→(∀a∈R,∀b∈R,∀c∈R,lt a b=true→lt b c=true→lt a c=true)→(∀a∈R,lt a a=false)→
  (∀a∈R,∀b∈R,lt a b=true→X a≤X b)→(∀a∈R,x0≤X a)→
  g (sm N R) (sm M R) *x0≤sm (fun p=> (g (Vc lt N R p+N p) (Vc lt M R p+M p) - g (Vc lt N R p) (Vc lt M R p)) *X p) R
 | 0,R,x0,hl,_,_,_,_,_,_=>by
  obtain rfl:=List.length_eq_zero_iff.1 hl
  simp only [sm,h0,jkd]
  exact jlg _
 | n+1,R,x0,hl,hn,ht,hr,hi,hX,hx0=>by
  obtain ⟨m,hm,hmin⟩ :=Ps (fun a b=>lt a b=true) R (by intro h;rw [h] at hl;simp at hl) ht hr
  have hp:R.Perm (m::R.erase m) :=List.perm_cons_erase hm
  have hsub:∀x∈R.erase m,x∈R:=fun x hx=>List.mem_of_mem_erase hx
  have hnm:∀x∈R.erase m,x≠m:=fun x hx e=>by
   rw [e] at hx
   exact(List.Nodup.not_mem_erase hn) hx
  have hasym:∀x∈R.erase m,lt x m=false:=fun x hx=>by
   cases h:lt x m with
   | false=>rfl
   | true=>
    have:=hr m hm x (hsub x hx) m hm (hmin x (hsub x hx) (hnm x hx)) h
    rw [hi m hm] at this
    cases this
  have key:∀(N:α→Int) (p:α),Vc lt N R p= (if lt p m=true then N m else 0) +Vc lt N (R.erase m) p:=fun N p=>by
   unfold Vc
   rw [VU _ hp]
   rfl
  have k1:∀(N:α→Int),Vc lt N R m=sm N (R.erase m) :=fun N=>by
   rw [key,hi m hm]
   have:Vc lt N (R.erase m) m=sm N (R.erase m) :=J0 fun x hx=>if_pos (hmin x (hsub x hx) (hnm x hx))
   rw [this]
   simp
  have k2:∀(N:α→Int),∀p∈R.erase m,Vc lt N R p=Vc lt N (R.erase m) p:=fun N p hx=>by
   rw [key,hasym p hx]
   simp
  have ih:=EJ lt N M X g hg h0 n (R.erase m) (X m) (by rw [List.length_erase_of_mem hm,hl];rfl) (hn.erase m) (fun a ha b hb=>ht a (hsub a ha) b (hsub b hb)) (fun a ha b hb c hc=>hr a (hsub a ha) b (hsub b hb) c (hsub c hc)) (fun a ha=>hi a (hsub a ha)) (fun a ha b hb=>hX a (hsub a ha) b (hsub b hb)) (fun a ha=>hX m hm a (hsub a ha) (hmin a (hsub a ha) (hnm a ha)))
  rw [VU N hp,VU M hp,VU (fun p=> (g (Vc lt N R p+N p) (Vc lt M R p+M p) - g (Vc lt N R p) (Vc lt M R p)) *X p) hp]
  simp only [sm]
  rw [J0 (l:=R.erase m) (f:=fun p=> (g (Vc lt N R p+N p) (Vc lt M R p+M p) - g (Vc lt N R p) (Vc lt M R p)) *X p) (g:=fun p=> (g (Vc lt N (R.erase m) p+N p) (Vc lt M (R.erase m) p+M p) - g (Vc lt N (R.erase m) p) (Vc lt M (R.erase m) p)) *X p) (fun p hx=>by rw [k2 N p hx,k2 M p hx]),k1 N,k1 M]
  rw [Int.add_comm (sm N (R.erase m)) (N m),Int.add_comm (sm M (R.erase m)) (M m)]
  have e1: (g (N m+sm N (R.erase m)) (M m+sm M (R.erase m)) - g (sm N (R.erase m)) (sm M (R.erase m))) *X m=g (N m+sm N (R.erase m)) (M m+sm M (R.erase m)) *X m- g (sm N (R.erase m)) (sm M (R.erase m)) *X m:=by grind
  have e2:g (N m+sm N (R.erase m)) (M m+sm M (R.erase m)) *x0≤g (N m+sm N (R.erase m)) (M m+sm M (R.erase m)) *X m:=jjM (hx0 m hm) (hg _ _)
  omega
theorem jcY {α:Type} (X:α→Int) :∀R:List α,∃x0,∀a∈R,x0≤X a
 | [] =>⟨0,fun _ h=>by cases h⟩
 | a::l=>by
  obtain ⟨x0,h⟩ :=jcY X l
  refine⟨min x0 (X a),fun b hb=> ?_⟩
  rcases jjw.1 hb with k | k
  ·rw [k];omega
  ·have:=h b k;omega
theorem Pm (hN:Net K N) (hM:Net K M) (g:Int→Int→Int) (hg:∀a b,0≤g a b) (h0:g 0 0=0) (X:Leg→Int) (hX:∀e∈K,∀p∈K,vd e Y=true→vd p Y=true→num p Y*den e≤num e Y*den p→X p≤X e) :
  0≤sm (fun p=>dg g K N M Y p*ix (vd p Y) *X p) K:=by
 have hu:UpR K (K.filter fun e=>vd e Y) Y:=⟨fun e he=>jkc.1 he,hN.nd.filter _,fun p _ e he ha _=>jkc.2 ⟨he,ha⟩⟩
 have hz:∀ {N:Leg→Int},Net K N→sm N (K.filter fun e=>vd e Y) =0:=fun {N} h=>by
  rw [←uO,←h.close (fun _ y=>ix (decide (y≤Y)))]
  refine J0 fun e he=> ?_
  have:=jgJ (h.ord e he)
  congr 1
  unfold vd ix
  by_cases a:e.ay≤Y
  ·rw [decide_eq_true a,jjG]
   by_cases b:e.b_y≤Y
   ·rw [decide_eq_true b,decide_eq_false (show¬Y<e.b_y by omega)];rfl
   ·rw [decide_eq_false b,decide_eq_true (show Y<e.b_y by omega)];rfl
  ·rw [decide_eq_false a,decide_eq_false (show¬e.b_y≤Y by omega)];rfl
 have hd:∀e∈K.filter (fun e=>vd e Y),0<den e:=fun e he=>by have:=qU.1 (hu.sub e he).2;unfold den;omega
 have hs:∀a∈K.filter (fun e=>vd e Y),∀b∈K.filter (fun e=>vd e Y),a≠b→SepE a b:=fun a ha b hb hn=>hN.sep a (hu.sub a ha).1 b (hu.sub b hb).1 hn
 obtain ⟨x0,hx0⟩ :=jcY X (K.filter fun e=>vd e Y)
 have ht:=EJ (fun p e=>xz e p) N M X g hg h0 (K.filter fun e=>vd e Y).length (K.filter fun e=>vd e Y) x0 rfl hu.nd
  (fun a ha b hb hn=> (jdR (hs b hb a ha (Ne.symm hn)) (hu.sub b hb).2 (hu.sub a ha).2))
  (fun a ha b hb c hc h1 h2=>by
   by_cases hab:b=a
   ·subst hab;exact h2
   ·by_cases hbc:c=b
    ·subst hbc;exact h1
    ·have r1:= (Un (hs b hb a ha hab) (hu.sub b hb).2 (hu.sub a ha).2).1 h1
     have r2:= (Un (hs c hc b hb hbc) (hu.sub c hc).2 (hu.sub b hb).2).1 h2
     have r3:=H0 (hd c hc) (hd b hb) (hd a ha) r2 r1
     by_cases hac:c=a
     ·subst hac
      exfalso
      have z1:Vj c c Y=0:=by unfold Vj;omega
      have z2:RI c c=0:=by unfold RI;omega
      unfold rgY at r3
      omega
     ·exact(Un (hs c hc a ha hac) (hu.sub c hc).2 (hu.sub a ha).2).2 r3)
  (fun a _=>H1 a)
  (fun a ha b hb h1=>by
   by_cases hab:b=a
   ·rw [hab];exact jlg _
   ·have r1:= (Un (hs b hb a ha hab) (hu.sub b hb).2 (hu.sub a ha).2).1 h1
    refine hX b (hu.sub b hb).1 a (hu.sub a ha).1 (hu.sub b hb).2 (hu.sub a ha).2 ?_
    have:0≤Vj b a Y:=by unfold rgY at r1;omega
    unfold Vj at this
    omega) hx0
 rw [hz hN,hz hM,h0,jkd,LP] at ht
 refine jkF ht (jk1 ?_)
 refine J0 fun p hp=> ?_
 by_cases ha:vd p Y=true
 ·have hm:p∈K.filter (fun e=>vd e Y) :=jkc.2 ⟨hp,ha⟩
  rw [if_pos ha,GE hN hu hm,GE hM hu hm,ha]
  unfold dg ix
  simp
 ·have:vd p Y=false:=by simpa using ha
  rw [if_neg ha,this]
  simp [ix]
def W9:List Leg→Int
 | [] =>1
 | e::l=> (if 0<den e then den e else 1) *W9 l
theorem HV:∀l:List Leg,0<W9 l
 | [] =>by decide
 | e::l=>by
  unfold W9
  refine jjZ ?_ (HV l)
  split
  ·assumption
  ·decide
theorem Z5:∀ {l:List Leg} {e:Leg},e∈l→0<den e→∃c,W9 l=den e*c
 | [],_,h,_=>by cases h
 | a::l,e,h,hd=>by
  rcases jjw.1 h with k | k
  ·subst k
   exact⟨W9 l,by show(if 0<den e then den e else 1) *W9 l=_;rw [if_pos hd]⟩
  ·obtain ⟨c,hc⟩ :=Z5 k hd
   exact⟨(if 0<den a then den a else 1) *c,by show(if 0<den a then den a else 1) *W9 l=_;rw [hc];grind⟩
def xOf (D:Int) (Y:Int) (e:Leg) :Int:=num e Y* (D/den e)
theorem jh8 (he:e∈K) (hp:p∈K) (de:0<den e) (dp:0<den p) (h:num p Y*den e≤num e Y*den p) :xOf (W9 K) Y p≤xOf (W9 K) Y e:=by
 obtain ⟨c,hc⟩ :=Z5 he de
 obtain ⟨d,hd⟩ :=Z5 hp dp
 have hD:=HV K
 have e1:W9 K/den e=c:=by rw [hc];exact Int.mul_ediv_cancel_left _ (Int.ne_of_gt de)
 have e2:W9 K/den p=d:=by rw [hd];exact Int.mul_ediv_cancel_left _ (Int.ne_of_gt dp)
 unfold xOf
 rw [e1,e2]
 have c0:0<c:=wi de (by rw [jj1];omega)
 have d0:0<d:=wi dp (by rw [jj1];omega)
 have hcd:den e*c=den p*d:=by rw [←hc,hd]
 have h1:=jjn h (show 0≤c*d from jj7 (jjZ c0 d0))
 have h2:num p Y*den e* (c*d) =num p Y*d* (den e*c) :=by grind
 have h3:num e Y*den p* (c*d) =num e Y*c* (den p*d) :=by grind
 rw [h2,h3,←hcd] at h1
 exact jjY h1 (by rw [←hc];exact hD)
theorem Re {α β:Type} (f:α→β→Int) :∀(l:List α) (m:List β),sm (fun a=>sm (fun b=>f a b) m) l=sm (fun b=>sm (fun a=>f a b) l) m
 | [],m=>by simp only [sm];exact(uf m).symm
 | a::l,m=>by
  simp only [sm]
  rw [Re f l m,yL]
theorem Rd {α:Type} {f:α→Int} :∀ {l:List α},(∀x∈l,0≤f x)→0≤sm f l
 | [],_=>jlg _
 | x::l,h=>by
  have h1:=h x (by simp)
  have h2:=Rd (l:=l) fun y hy=>h y (jjs _ hy)
  simp only [sm]
  omega
theorem Cz:∀B:List Leg,∃V:List Pn,V.Nodup∧∀l∈B,lA l∈V∧lB l∈V
 | [] =>⟨[],List.nodup_nil,fun _ h=>by cases h⟩
 | b::B=>by
  obtain ⟨V,hn,h⟩ :=Cz B
  have ins:∀(V:List Pn) (p:Pn),V.Nodup→∃W:List Pn,W.Nodup∧p∈W∧∀x∈V,x∈W:=fun V p hV=>by
   by_cases hp:p∈V
   ·exact⟨V,hV,hp,fun x hx=>hx⟩
   ·exact⟨p::V,jkJ.2 ⟨hp,hV⟩,by simp,fun x hx=>jjs _ hx⟩
  obtain ⟨V1,n1,m1,s1⟩ :=ins V (lA b) hn
  obtain ⟨V2,n2,m2,s2⟩ :=ins V1 (lB b) n1
  refine⟨V2,n2,fun l hl=> ?_⟩
  rcases jjw.1 hl with k | k
  ·rw [k];exact⟨s2 _ m1,m2⟩
  ·exact⟨s2 _ (s1 _ (h l k).1),s2 _ (s1 _ (h l k).2)⟩
theorem On (hc:∀v,sm (fun l=>UN v (lA l) - UN v (lB l)) B=0) (f:Pn→Int) :sm (fun l=>f (lA l) - f (lB l)) B=0:=by
 obtain ⟨V,hn,hV⟩ :=Cz B
 have hf:∀p∈V,f p=sm (fun v=>f v*UN v p) V:=fun p hp=>by
  rw [←BB hn hp f]
  refine J0 fun v _=> ?_
  unfold UN ix
  by_cases h:p=v
  ·rw [if_pos h,if_pos (decide_eq_true h)];omega
  ·rw [if_neg h,if_neg (by simpa using h)];omega
 have e1:sm (fun l=>f (lA l) - f (lB l)) B=sm (fun l=>sm (fun v=>f v* (UN v (lA l) - UN v (lB l))) V) B:=by
  refine J0 fun l hl=> ?_
  rw [hf _ (hV l hl).1,hf _ (hV l hl).2,←yM]
  refine J0 fun v _=> ?_
  grind
 have mulL:∀(c:Int) (g:Leg→Int) (l:List Leg),sm (fun x=>c*g x) l=c*sm g l:=fun c g l=>by
  induction l with
  | nil=>simp [sm]
  | cons a l ih=>simp only [sm,ih];grind
 rw [e1,Re,←uf V]
 refine J0 fun v _=> ?_
 rw [mulL,hc v,jkT]
def Dn (a b:Pn) :Int:=a.1*b.2- a.2*b.1
def GT (l:Leg) :Int:= (l.ax+l.bx) * (l.b_y- l.ay)
theorem jcg (hc:∀v,sm (fun l=>UN v (lA l) - UN v (lB l)) B=0) :sm (fun l=>Dn (lA l) (lB l)) B=sm GT B:=by
 have h:=On hc (fun p=>p.1*p.2)
 have e:sm (fun l=>Dn (lA l) (lB l)) B=sm (fun l=>GT l+ ((lA l).1* (lA l).2- (lB l).1* (lB l).2)) B:=J0 fun l _=>by
  simp only [Dn,GT,lA,lB];grind
 rw [e,yL,h,jk4]
def lvM (M:Nat) :List Int:= (List.range (2*M)).map fun (i:Nat) =>2* (i:Int) - 2* (M:Int) +1
theorem jfO (p:Leg) (j:Int) :num (tw p) (2*p.ay+2*j+1) =4*p.ax*den p+2* (p.bx- p.ax) * (2*j+1) :=by
 have q1: (tw p).ay=2*p.ay:=rfl
 have q2: (tw p).ax=2*p.ax:=rfl
 have q3: (tw p).bx=2*p.bx:=rfl
 unfold num
 rw [uj,q1,q2,q3]
 grind
theorem jht {M:Nat} (h1: -(M:Int)≤p.ay) (h2:p.ay≤p.b_y) (h3:p.b_y≤M) :sm (fun Y=>ix (vd (tw p) Y) *num (tw p) Y) (lvM M) =GT p* (2*den p) :=by
 have hd:den p=p.b_y- p.ay:=rfl
 have key:∀n:Nat,sm (fun (i:Nat) =>ix (vd (tw p) (2* (i:Int) - 2* (M:Int) +1)) *num (tw p) (2* (i:Int) - 2* (M:Int) +1)) (List.range n)
   = (fun j:Int=>4*p.ax*den p*j+2* (p.bx- p.ax) * (j*j)) (if(n:Int)≤M+p.ay then 0 else if(n:Int)≤M+p.b_y then(n:Int) - M- p.ay else den p) :=fun n=>by
  induction n with
  | zero=>
   rw [if_pos Om]
   simp [sm]
  | succ n ih=>
   rw [List.range_succ,kV,ih]
   simp only [sm,jk4]
   have q1: (tw p).ay=2*p.ay:=rfl
   have q4: (tw p).b_y=2*p.b_y:=rfl
   have ha:vd (tw p) (2* (n:Int) - 2* (M:Int) +1) =true↔p.ay≤(n:Int) - M∧(n:Int) - M<p.b_y:=by
    rw [qU,q1,q4];omega
   by_cases c1: ((n+1:Nat) :Int)≤M+p.ay
   ·rw [if_pos Om,if_pos c1]
    have:vd (tw p) (2* (n:Int) - 2* (M:Int) +1) =false:=by
     cases k:vd (tw p) (2* (n:Int) - 2* (M:Int) +1) with
     | false=>rfl
     | true=> (have:=ha.1 k;omega)
    rw [this]
    simp [ix]
   ·rw [if_neg c1]
    by_cases c2: ((n+1:Nat) :Int)≤M+p.b_y
    ·rw [if_pos c2,ha.2 Om]
     have e0: (if(n:Int)≤M+p.ay then(0:Int) else if(n:Int)≤M+p.b_y then(n:Int) - M- p.ay else den p) = (n:Int) - M- p.ay:=by
      split
      ·omega
      ·rw [if_pos Om]
     rw [e0]
     obtain ⟨j,hj⟩ :∃j:Int,j= (n:Int) - M- p.ay:=⟨_,rfl⟩
     have e1: (2* (n:Int) - 2* (M:Int) +1) =2*p.ay+2*j+1:=by omega
     have e2: ((n+1:Nat) :Int) - M- p.ay=j+1:=by omega
     rw [e1,e2,←hj,jfO]
     have:ix true=1:=rfl
     rw [this]
     grind
    ·rw [if_neg c2]
     have e0: (if(n:Int)≤M+p.ay then(0:Int) else if(n:Int)≤M+p.b_y then(n:Int) - M- p.ay else den p) =den p:=by
      split
      ·omega
      ·split
       ·omega
       ·rfl
     have:vd (tw p) (2* (n:Int) - 2* (M:Int) +1) =false:=by
      cases k:vd (tw p) (2* (n:Int) - 2* (M:Int) +1) with
      | false=>rfl
      | true=> (have:=ha.1 k;omega)
     rw [e0,this]
     simp [ix]
 unfold lvM
 rw [wV,key]
 have e0: (if((2*M:Nat) :Int)≤M+p.ay then(0:Int) else if((2*M:Nat) :Int)≤M+p.b_y then((2*M:Nat) :Int) - M- p.ay else den p) =den p:=by
  split
  ·omega
  ·split
   ·omega
   ·rfl
 rw [e0]
 unfold GT
 rw [←hd]
 grind
theorem Rc (c:Int) (g:α→Int) (l:List α) :sm (fun x=>c*g x) l=c*sm g l:=by
 induction l with
 | nil=>simp [sm]
 | cons a l ih=>simp only [sm,ih];grind
theorem jbS (hE:Keys K E) (hF:Keys K F) {M:Nat} (hM:∀p∈K,-(M:Int)≤p.ay∧p.b_y≤M) :0≤sm (fun l=>Dn (lA l) (lB l)) (KK K E F how) :=by
 rw [jcg (xH hE hF)]
 have e1:sm GT (KK K E F how) =sm (fun p=>cB E F how p*GT p) K:=by
  unfold KK
  rw [Z7]
  refine J0 fun p _=> ?_
  rw [GL p _ _ _ (by simp only [GT,ku];grind)]
  rfl
 rw [e1]
 have hD:=HV (K.map tw)
 have e2:∀p∈K,W9 (K.map tw) *GT p=sm (fun Y=>ix (vd (tw p) Y) *xOf (W9 (K.map tw)) Y (tw p)) (lvM M) :=fun p hp=>by
  have ho:p.ay<p.b_y∨(p.ay=p.b_y∧p.ax<p.bx) :=hE.ord p hp
  have hm:=hM p hp
  rcases ho with hlt |⟨heq,_⟩
  ·have dp:0<den (tw p) :=by rw [uj];unfold den;omega
   obtain ⟨c,hc⟩ :=Z5 (ZN hp) dp
   have ec:W9 (K.map tw) /den (tw p) =c:=by rw [hc];exact Int.mul_ediv_cancel_left _ (Int.ne_of_gt dp)
   have e3:sm (fun Y=>ix (vd (tw p) Y) *xOf (W9 (K.map tw)) Y (tw p)) (lvM M) =c*sm (fun Y=>ix (vd (tw p) Y) *num (tw p) Y) (lvM M) :=by
    rw [←Rc]
    refine J0 fun Y _=> ?_
    unfold xOf
    rw [ec]
    grind
   rw [e3,jht hm.1 Om hm.2,hc,uj]
   grind
  ·have z:∀Y,vd (tw p) Y=false:=fun Y=>by
    cases k:vd (tw p) Y with
    | false=>rfl
    | true=>
     have:=qU.1 k
     have q1: (tw p).ay=2*p.ay:=rfl
     have q4: (tw p).b_y=2*p.b_y:=rfl
     omega
   have t0:GT p=0:=by unfold GT;rw [heq];grind
   rw [t0,jkT]
   refine((J0 fun Y _=> ?_).trans (uf (lvM M))).symm
   rw [z]
   simp [ix]
 have e4:W9 (K.map tw) *sm (fun p=>cB E F how p*GT p) K=sm (fun Y=>sm (fun p=>cB E F how p* (ix (vd (tw p) Y) *xOf (W9 (K.map tw)) Y (tw p))) K) (lvM M) :=by
  rw [←Rc,←Re]
  refine J0 fun p hp=> ?_
  rw [Rc,←e2 p hp]
  grind
 have e5:0≤W9 (K.map tw) *sm (fun p=>cB E F how p*GT p) K:=by
  rw [e4]
  refine Rd fun Y _=> ?_
  have hl:=Pm hE.net hF.net (gW how) (fun a b=>by unfold gW ix;split<;>decide) (by unfold gW;rw [Hq];rfl) (xOf (W9 (K.map tw)) Y) (Y:=Y) (fun e he p hp ha hb h=>jh8 he hp (by have:=qU.1 ha;unfold den;omega) (by have:=qU.1 hb;unfold den;omega) h)
  rw [wV] at hl
  refine jkF hl (jk1 (J0 fun p hp=> ?_))
  have:dg (gW how) (K.map tw) (Qo (E.map tw)) (Qo (F.map tw)) Y (tw p) *ix (vd (tw p) Y) =cB E F how p*ix (vd (tw p) Y) :=Pa fun h=> (hE.cB_dg hF hp h).symm
  rw [this]
  grind
 rcases jk5 (sm (fun p=>cB E F how p*GT p) K) 0 with h | h
 ·have:=jkD hD h
  omega
 ·exact h
theorem PC {a b c d:Pn} (h:VG a b c d=true) (hn:¬((a=c∧b=d)∨(a=d∧b=c))) :
  qg a b c d≠true∧∀q,q∈Qk a b c d→(q=a∨q=b)∧(q=c∨q=d) :=by
 have h01:Qd a b c d=0∨(Qd a b c d=1∧(a=c∨a=d∨b=c∨b=d)) :=by
  by_cases ap:KU a b c d=true
  ·exact .inl (YC ap)
  ·unfold VG at h
   rw [if_neg ap] at h
   rcases LI a b c d with e | e | e | e<;>rw [e] at h
   ·exact .inl e
   ·refine .inr ⟨e,?_⟩
    rw [if_neg Dc,if_pos rfl] at h
    simp only [ne_eq,decide_not,jj9,jkV,Bool.not_eq_false',decide_eq_true_eq] at h
    rcases h with((h | h) | h) | h
    ·exact .inl h
    ·exact .inr (.inl h)
    ·exact .inr (.inr (.inl h))
    ·exact .inr (.inr (.inr h))
   ·rw [if_pos rfl] at h;cases h
   ·rw [if_neg Dc,if_neg Dc,if_pos rfl] at h
    exact absurd (by simpa using h) hn
 rcases h01 with e |⟨e,hs⟩
 ·have hl: (Qk a b c d).length=0:=by
   unfold Qd at e
   by_cases hl: (Qk a b c d).length=0
   ·exact hl
   ·rw [if_neg hl] at e
    split at e<;>cases e
  refine⟨fun k=> ?_,fun q hq=> ?_⟩
  ·unfold Qd at e
   rw [if_pos hl,if_pos k] at e
   cases e
  ·rw [List.length_eq_zero_iff.1 hl] at hq
   cases hq
 ·have hl: (Qk a b c d).length=1:=by
   unfold Qd at e
   by_cases h0: (Qk a b c d).length=0
   ·rw [if_pos h0] at e
    split at e<;>cases e
   ·rw [if_neg h0] at e
    by_cases h1: (Qk a b c d).length=1
    ·exact h1
    ·rw [if_neg h1] at e;cases e
  have hv:∃v,v∈Qk a b c d∧(v=a∨v=b)∧(v=c∨v=d) :=by
   rcases hs with k | k | k | k
   ·exact⟨a,qL.2 ⟨.inl rfl,by rw [kd,wE,k,wE];rfl⟩, .inl rfl, .inl k⟩
   ·exact⟨a,qL.2 ⟨.inl rfl,by rw [kd,wE,k,Wm];rfl⟩, .inl rfl, .inr k⟩
   ·exact⟨b,qL.2 ⟨.inr (.inl rfl),by rw [kd,Wm,k,wE];rfl⟩, .inr rfl, .inl k⟩
   ·exact⟨b,qL.2 ⟨.inr (.inl rfl),by rw [kd,Wm,k,Wm];rfl⟩, .inr rfl, .inr k⟩
  obtain ⟨v,hm,hab,hcd⟩ :=hv
  obtain ⟨x,hx⟩ :=List.length_eq_one_iff.1 hl
  have hvx:v=x:=by rw [hx] at hm;simpa using hm
  refine⟨fun k=> ?_,fun q hq=> ?_⟩
  ·have z:∀p q:Pn,tn p q p=0∧tn p q q=0:=fun p q=>by unfold tn Q0;constructor<;>grind
   unfold qg at k
   simp only [jjl,decide_eq_true_eq] at k
   have k1:=k.1
   have s0:wR 0=0:=rfl
   rcases hab with e1 | e1<;>rcases hcd with e2 | e2
   ·rw [←e2,e1,(z a b).1,s0,jkd] at k1;omega
   ·rw [←e2,e1,(z a b).1,s0,jkT] at k1;omega
   ·rw [←e2,e1,(z a b).2,s0,jkd] at k1;omega
   ·rw [←e2,e1,(z a b).2,s0,jkT] at k1;omega
  ·have:q=v:=by rw [hx] at hq;rw [hvx];simpa using hq
   rw [this]
   exact⟨hab,hcd⟩
theorem jdo (e:Leg) :Q3 e=e∨Q3 e=ku e:=by unfold Q3;split<;>simp
theorem PB (h:VG (lA e) (lB e) (lA f) (lB f) =true) (hn:¬((lA e=lA f∧lB e=lB f)∨(lA e=lB f∧lB e=lA f))) :Meets e f:=by
 obtain ⟨h1,h2⟩ :=PC h hn
 have on1:=wE;have on2':=Wm
 refine⟨h1,fun q hq ho=> (h2 q (qL.2 ⟨hq.elim .inl fun k=> .inr (.inl k),?_⟩)).2,fun q hq ho=> (h2 q (qL.2 ⟨.inr (.inr hq),?_⟩)).1⟩
 ·unfold kd
  rw [ho]
  rcases hq with k | k<;>rw [k]
  ·rw [on1];rfl
  ·rw [on2'];rfl
 ·unfold kd
  rw [ho]
  rcases hq with k | k<;>rw [k]
  ·rw [on1];rfl
  ·rw [on2'];rfl
theorem BR (a b c:Pn) :tn b a c= -tn a b c:=by unfold tn Q0;grind
theorem TT (n:Int) :wR (-n) = -wR n:=by unfold wR;split<;>split<;> (try split) <;>omega
theorem Uf (a b c d:Pn) :qg b a c d=qg a b c d:=by
 unfold qg
 rw [BR a b,BR a b,TT,TT,jk9,jj1 (wR (tn c d b))]
theorem MO (a b p:Pn) :WW b a p=WW a b p:=by
 have h:tn b a p=0↔tn a b p=0:=by rw [BR a b];omega
 unfold WW DC
 have hb: (Q0 b.1 b.2 a.1 a.2 p.1 p.2==0) = (Q0 a.1 a.2 b.1 b.2 p.1 p.2==0) :=by
  have: (tn b a p==0) = (tn a b p==0) :=by
   by_cases k:tn a b p=0
   ·rw [k,h.2 k]
   ·rw [beq_eq_false_iff_ne.2 k,beq_eq_false_iff_ne.2 fun z=>k (h.1 z)]
  exact this
 rw [hb,jk3 b.1,jk2 b.1,jk3 b.2,jk2 b.2]
theorem Meets.rev (h:Meets e f) :Meets (ku e) f:=
 ⟨by have:=h.no;rw [←Uf] at this;exact this,fun q hq=>h.e1 q hq.symm,fun q hq ho=> (h.e2 q hq (by rw [←MO];exact ho)).symm⟩
theorem Meets.nrm' (h:Meets e f) :Meets (Q3 e) (Q3 f) :=by
 have h1:Meets (Q3 e) f:=by
  rcases jdo e with k | k<;>rw [k]
  ·exact h
  ·exact h.rev
 rcases jdo f with k | k<;>rw [k]
 ·exact h1
 ·exact h1.symm.rev.symm
theorem jfL (he:lA e≠lB e) (hn:Q3 e≠Q3 f) :¬((lA e=lA f∧lB e=lB f)∨(lA e=lB f∧lB e=lA f)) :=by
 rintro(⟨h1,h2⟩ |⟨h1,h2⟩)
 ·exact hn (by rw [show e=f from YR h1 h2])
 ·have:f=ku e:=YR h2.symm h1.symm
  exact hn (by rw [this,ML he])
theorem jfS (he:lA e≠lB e) :vG (lA (Q3 e)) (lB (Q3 e)) :=by
 unfold Q3
 split
 ·rename_i h;exact h
 ·rename_i h
  simp only [vG] at h⊢
  have: (lA e).1≠(lB e).1∨(lA e).2≠(lB e).2:=by
   by_cases k: (lA e).1= (lB e).1
   ·exact .inr fun z=>he (Prod.ext k z)
   ·exact .inl k
  omega
theorem CL (hn:K.Nodup) (hm:∀q,q∈K↔∃e∈F,q=Q3 e) (hne:∀l∈F,lA l≠lB l) (hP:XA F) (hs:∀e∈E,e∈F) (hc:∀f:Int→Int→Int,sm (fun e:Leg=>f e.ax e.ay- f e.bx e.b_y) E=0) :Keys K E:=by
 have ho:∀p∈K,vG (lA p) (lB p) :=fun p hp=>by
  obtain ⟨e,he,rfl⟩ := (hm p).1 hp
  exact jfS (hne e he)
 have hme:∀e∈K,∀p∈K,e≠p→Meets e p:=fun e he p hp h=>by
  obtain ⟨x,hx,rfl⟩ := (hm e).1 he
  obtain ⟨y,hy,rfl⟩ := (hm p).1 hp
  exact(PB (hP x hx y hy) (jfL (hne x hx) h)).nrm'
 exact⟨hn,ho,fun e he p hp h=>jhU (ho e he) (ho p hp) h (hme e he p hp h),fun e he p hp h=>jge (ho e he) (ho p hp) h (hme e he p hp h),fun e he=> (hm _).2 ⟨e,hs e he,rfl⟩,hc⟩
theorem H4 :KI K N p Y=sm N (K.filter fun e=>vd e Y&&xz e p) :=by
 unfold KI
 rw [←uO]
 refine J0 fun e _=> ?_
 by_cases hep:e=p
 ·rw [if_pos hep,hep,H1,jkW]
  simp [ix]
 ·rw [if_neg hep]
theorem jeu (h:Net K N) (hp:p∈K) (ha:vd p Y=true) :UpR K (K.filter fun e=>vd e Y&&xz e p) Y where
 sub:=fun e he=>by
  have:=jkc.1 he
  rw [jjl] at this
  exact⟨this.1,this.2.1⟩
 nd:=h.nd.filter _
 all:=fun q hq e he hea hr=>by
  have hq':=jkc.1 hq
  rw [jjl] at hq'
  obtain ⟨hqK,hqa,hqr⟩ :=hq'
  refine jkc.2 ⟨he,?_⟩
  rw [hea,jjG]
  have d1:0<den e:=by have:=qU.1 hea;unfold den;omega
  have d2:0<den q:=by have:=qU.1 hqa;unfold den;omega
  have d3:0<den p:=by have:=qU.1 ha;unfold den;omega
  have nqp:q≠p:=fun k=>by rw [k,H1] at hqr;cases hqr
  have neq':e≠q:=fun k=>by rw [k,H1] at hr;cases hr
  have r1:= (Un (h.sep q hqK p hp nqp) hqa ha).1 hqr
  have r2:= (Un (h.sep e he q hqK neq') hea hqa).1 hr
  have r3:=H0 d1 d2 d3 r2 r1
  by_cases k:e=p
  ·exfalso
   rw [k] at r3
   have z1:Vj p p Y=0:=by unfold Vj;omega
   have z2:RI p p=0:=by unfold RI;omega
   unfold rgY at r3
   omega
  ·exact(Un (h.sep e he p hp k) hea ha).2 r3
theorem BA {l:Leg} {a b:Bool} (h:l∈zK p a b) :l=p∨l=ku p:=by
 unfold zK at h
 split at h
 ·exact .inl (jjp.1 h)
 ·split at h
  ·exact .inr (jjp.1 h)
  ·cases h
theorem Gh (h:vG (lA p) (lB p)) :Q3 p=p∧Q3 (ku p) =p∧sg p=1∧sg (ku p) = -1:=by
 have h': (lA p).2< (lB p).2∨((lA p).2= (lB p).2∧(lA p).1< (lB p).1) :=h
 have n1:¬vG (lB p) (lA p) :=fun k=>by
  have k': (lB p).2< (lA p).2∨((lB p).2= (lA p).2∧(lB p).1< (lA p).1) :=k
  omega
 have n2:vG (lB (ku p)) (lA (ku p)) :=h
 refine⟨by unfold Q3;rw [if_neg n1],by unfold Q3;rw [if_pos n2];rfl,by unfold sg;rw [if_neg n1],by unfold sg;rw [if_pos n2]⟩
theorem jbT {l:Leg} (h:l∈KK K E F how) :∃p∈K,l∈zK p (Qg (kZ E p).left (kZ F p).left how) (Qg (kZ E p).right (kZ F p).right how) :=jkO.1 h
theorem Keys.brd (hE:Keys K E) (hF:Keys K F) :Keys K (KK K E F how) :=
 ⟨hE.nd,hE.ord,hE.sep,hE.sepl,fun e he=>by
  obtain ⟨p,hp,hl⟩ :=jbT he
  have:=Gh (hE.ord p hp)
  rcases BA hl with k | k<;>rw [k]
  ·rw [this.1];exact hp
  ·rw [this.2.1];exact hp,fun f=>On (xH hE hF) fun p=>f p.1 p.2⟩
theorem CZ (hE:Keys K E) (hp:p∈K) :Qo (KK K E F how) p=cB E F how p:=by
 unfold Qo KK
 rw [Z7,←BB hE.nd hp (cB E F how)]
 refine J0 fun q hq=> ?_
 obtain ⟨n1,n2,n3,n4⟩ :=Gh (hE.ord q hq)
 rw [GL q _ _ (fun e=>if Q3 e=p then sg e else 0) (by show(if Q3 (ku q) =p then sg (ku q) else 0) = -(if Q3 q=p then sg q else 0);rw [n1,n2,n3,n4];split<;>rfl)]
 show(ix _- ix _) * (if Q3 q=p then sg q else 0) =_
 rw [n1,n3]
 by_cases k:p=q
 ·rw [if_pos k,if_pos k.symm]
  unfold cB
  omega
 ·rw [if_neg k,if_neg (Ne.symm k),jkT]
theorem Eg (hE:Keys K E) (hF:Keys K F) (hu:UpR (K.map tw) R Y) :
  sm (Qo ((KK K E F how).map tw)) R=gW how (sm (Qo (E.map tw)) R) (sm (Qo (F.map tw)) R) :=by
 have h:=ray hE.net hF.net hu (gW how)
 rw [show gW how 0 0=0 by unfold gW;rw [Hq];rfl,Int.sub_zero] at h
 rw [←h]
 refine J0 fun e he=> ?_
 obtain ⟨hek,hea⟩ :=hu.sub e he
 obtain ⟨q,hq,rfl⟩ :=jjx.1 hek
 rw [Li,CZ hE hq]
 exact hE.cB_dg hF hq hea
theorem jae (hE:Keys K E) (hF:Keys K F) (hp:p∈K) :
  (kZ (KK K E F how) p).left=ix (Qg (kZ E p).left (kZ F p).left how)∧(kZ (KK K E F how) p).right=ix (Qg (kZ E p).right (kZ F p).right how) :=by
 have hB:=hE.brd (how:=how) hF
 have hn:=CZ (F:=F) (how:=how) hE hp
 have ho:p.ay<p.b_y∨(p.ay=p.b_y∧p.ax<p.bx) :=hE.ord p hp
 have q1: (tw p).ay=2*p.ay:=rfl
 have q2: (tw p).b_y=2*p.b_y:=rfl
 rcases ho with hl |⟨hl,_⟩
 ·have hmid:vd (tw p) (vh p) =true:=qU.2 (by unfold vh;omega)
  have e0:WX (KK K E F how) p=ix (Qg (WX E p) (WX F p) how) :=by
   rw [hB.out hp hl,hE.out hp hl,hF.out hp hl,H4,H4,H4]
   exact Eg hE hF (jeu hE.net (ZN hp) hmid)
  unfold cB at hn
  unfold kZ at hn⊢
  rw [if_neg Om,if_neg Om] at hn
  rw [if_neg Om,if_neg Om,if_neg Om]
  simp only at hn⊢
  rw [hn,e0]
  exact⟨by omega,rfl⟩
 ·have e0:WX (KK K E F how) p=ix (Qg (WX E p) (WX F p) how) :=by
   rw [hB.lev_out hp hl true (X:=2*p.bx) rfl,hE.lev_out hp hl true (X:=2*p.bx) rfl,hF.lev_out hp hl true (X:=2*p.bx) rfl]
   exact Eg hE hF (jet hE.net _ true (jlg _) fun e _ ha=>by have:=qU.1 ha;omega)
  unfold cB at hn
  unfold kZ at hn⊢
  rw [if_pos hl,if_pos hl] at hn
  rw [if_pos hl,if_pos hl,if_pos hl]
  simp only at hn⊢
  rw [hn,e0]
  exact⟨rfl,by omega⟩
theorem CG (b:Bool) :Qg (ix b) 0 1=b:=by cases b<;>rfl
theorem jfD (p:Leg) : (kZ [] p).left=0∧(kZ [] p).right=0:=by
 unfold kZ
 split<;>exact⟨rfl,rfl⟩
theorem jac {K2:List Leg} (hE:Keys K E) (hF:Keys K F) (hK:K2=K.filter fun p=> !(zK p (Qg (kZ E p).left (kZ F p).left how) (Qg (kZ E p).right (kZ F p).right how)).isEmpty) (hB:∀p,kZ B p=kZ (KK K E F how) p) :
  KK K2 B [] 1=KK K E F how:=by
 rw [hK]
 have key:∀L:List Leg,(∀p∈L,p∈K)→KK (L.filter fun p=> !(zK p (Qg (kZ E p).left (kZ F p).left how) (Qg (kZ E p).right (kZ F p).right how)).isEmpty) B [] 1=KK L E F how:=fun L=>by
  induction L with
  | nil=>intro _;rfl
  | cons p L ih=>
   intro hL
   have ih':=ih fun q hq=>hL q (jjs _ hq)
   obtain ⟨s1,s2⟩ :=jae (how:=how) hE hF (hL p (jjJ ..))
   obtain ⟨z1,z2⟩ :=jfD p
   rw [List.filter_cons]
   have e0:KK (p::L) E F how=zK p (Qg (kZ E p).left (kZ F p).left how) (Qg (kZ E p).right (kZ F p).right how) ++KK L E F how:=by
    unfold KK;rw [jjH]
   rw [e0]
   split
   ·have e1:∀M:List Leg,KK (p::M) B [] 1=zK p (Qg (kZ B p).left (kZ [] p).left 1) (Qg (kZ B p).right (kZ [] p).right 1) ++KK M B [] 1:=fun M=>by
     unfold KK;rw [jjH]
    rw [e1,ih',hB p,s1,s2,z1,z2,CG,CG]
   ·rename_i hk
    rw [ih']
    have:zK p (Qg (kZ E p).left (kZ F p).left how) (Qg (kZ E p).right (kZ F p).right how) = [] :=by simpa using hk
    rw [this,jj2]
 exact key K fun _ h=>h
end Go.Proofs.YtbahojdbmmjkcaaGreat
