import Derived.Test.YtpncbbcmoiiipaaGreatMNetT
import Derived.Test.YtpncbbcmoiiipaaGreatMNetI
import Derived.Test.YtpncbbcmoiiipaaGreatMBrd2
set_option linter.unusedVariables false
set_option linter.unusedSimpArgs false
namespace Go.Proofs.YtpncbbcmoiiipaaGreat
open Go Go.RowKit
theorem wj {α:Type} (f:α→Int) {l m:List α} (h:l.Perm m) :sm f l=sm f m:=by
 induction h with
 | nil=>rfl
 | cons x _ ih=>simp only [sm,ih]
 | swap x y l=>simp only [sm];omega
 | trans _ _ h1 h2=>exact h1.trans h2
theorem Ln {α:Type} (q:α→Bool) (f:α→Int) :∀l:List α,sm f (l.filter q) =sm (fun e=>if q e=true then f e else 0) l
 | [] =>rfl
 | a::l=>by
  rw [jj9]
  by_cases h:q a=true
  ·rw [if_pos h]
   simp only [sm,Ln q f l,if_pos h]
  ·rw [if_neg h]
   simp only [sm,Ln q f l,if_neg h]
   omega
theorem Nx {α:Type} (lt:α→α→Prop) :∀(R:List α),R≠ []→(∀a∈R,∀b∈R,a≠b→lt a b∨lt b a)→(∀a∈R,∀b∈R,∀c∈R,lt a b→lt b c→lt a c)→∃m∈R,∀x∈R,x≠m→lt m x
 | [],h,_,_=>absurd rfl h
 | [a],_,_,_=>⟨a,by simp,fun x hx hn=>absurd (jik.1 hx) hn⟩
 | a::b::l,_,ht,hr=>by
  obtain ⟨m,hm,hmin⟩ :=Nx lt (b::l) (by simp) (fun x hx y hy=>ht x (jiq _ hx) y (jiq _ hy)) (fun x hx y hy z hz=>hr x (jiq _ hx) y (jiq _ hy) z (jiq _ hz))
  have hma:m∈a::b::l:=jiq _ hm
  by_cases ham:a=m
  ·subst ham
   refine⟨a,by simp,fun x hx hn=> ?_⟩
   rcases jir.1 hx with h | h
   ·exact absurd h hn
   ·exact hmin x h hn
  ·rcases ht a (by simp) m hma ham with h | h
   ·refine⟨a,by simp,fun x hx hn=> ?_⟩
    rcases jir.1 hx with h1 | h1
    ·exact absurd h1 hn
    ·by_cases hxm:x=m
     ·rw [hxm];exact h
     ·exact hr a (by simp) m hma x hx h (hmin x h1 hxm)
   ·refine⟨m,hma,fun x hx hn=> ?_⟩
    rcases jir.1 hx with h1 | h1
    ·rw [h1];exact h
    ·exact hmin x h1 hn
def vX {α:Type} (lt:α→α→Bool) (N:α→Int) (R:List α) (p:α) :Int:=sm (fun e=>if lt p e=true then N e else 0) R
theorem jhR {α:Type} [DecidableEq α] (lt:α→α→Bool) (N M:α→Int) (g:Int→Int→Int) :∀(n:Nat) (R:List α),R.length=n→R.Nodup→
  (∀a∈R,∀b∈R,a≠b→lt a b=true∨lt b a=true)→(∀a∈R,∀b∈R,∀c∈R,lt a b=true→lt b c=true→lt a c=true)→(∀a∈R,lt a a=false)→
  sm (fun p=>g (vX lt N R p+N p) (vX lt M R p+M p) - g (vX lt N R p) (vX lt M R p)) R=g (sm N R) (sm M R) - g 0 0
 | 0,R,hl,_,_,_,_=>by
  obtain rfl:=List.length_eq_zero_iff.1 hl
  simp [sm]
 | n+1,R,hl,hn,ht,hr,hi=>by
  obtain ⟨m,hm,hmin⟩ :=Nx (fun a b=>lt a b=true) R (by intro h;rw [h] at hl;simp at hl) ht hr
  have hp:R.Perm (m::R.erase m) :=List.perm_cons_erase hm
  have hsub:∀x∈R.erase m,x∈R:=fun x hx=>List.mem_of_mem_erase hx
  have hnm:∀x∈R.erase m,x≠m:=fun x hx e=>by
   rw [e] at hx
   exact(List.Nodup.not_mem_erase hn) hx
  have hasym:∀x∈R.erase m,lt x m=false:=fun x hx=>by
   cases h:lt x m with
   | false=>rfl
   | true=>
    have:=hr m hm x (hsub x hx) m hm (hmin x (hsub x hx) (hnm x hx)) h
    rw [hi m hm] at this
    cases this
  have key:∀(N:α→Int) (p:α),vX lt N R p= (if lt p m=true then N m else 0) +vX lt N (R.erase m) p:=fun N p=>by
   unfold vX
   rw [wj _ hp]
   rfl
  have k1:∀(N:α→Int),vX lt N R m=sm N (R.erase m) :=fun N=>by
   rw [key,hi m hm]
   have:vX lt N (R.erase m) m=sm N (R.erase m) :=JW fun x hx=>if_pos (hmin x (hsub x hx) (hnm x hx))
   rw [this]
   simp
  have k2:∀(N:α→Int),∀p∈R.erase m,vX lt N R p=vX lt N (R.erase m) p:=fun N p hx=>by
   rw [key,hasym p hx]
   simp
  have ih:=jhR lt N M g n (R.erase m) (by rw [List.length_erase_of_mem hm,hl];rfl) (hn.erase m) (fun a ha b hb=>ht a (hsub a ha) b (hsub b hb)) (fun a ha b hb c hc=>hr a (hsub a ha) b (hsub b hb) c (hsub c hc)) (fun a ha=>hi a (hsub a ha))
  rw [wj _ hp,wj N hp,wj M hp]
  simp only [sm]
  rw [JW (l:=R.erase m) (g:=fun p=>g (vX lt N (R.erase m) p+N p) (vX lt M (R.erase m) p+M p) - g (vX lt N (R.erase m) p) (vX lt M (R.erase m) p)) (fun p hx=>by rw [k2 N p hx,k2 M p hx]),ih,k1 N,k1 M]
  rw [Int.add_comm (sm N (R.erase m)) (N m),Int.add_comm (sm M (R.erase m)) (M m)]
  omega
def den (p:Leg) :Int:=p.b_y- p.ay
def num (p:Leg) (Y:Int) :Int:=p.ax*den p+ (p.bx- p.ax) * (Y- p.ay)
def Vc (e p:Leg) (Y:Int) :Int:=num e Y*den p- num p Y*den e
def I6 (e p:Leg) :Int:= (e.bx- e.ax) *den p- (p.bx- p.ax) *den e
theorem Vu (e p:Leg) (Y Z:Int) :Vc e p Z=Vc e p Y+I6 e p* (Z- Y) :=by unfold Vc I6 num;grind
theorem Xj (e p:Leg) (Y:Int) :Vc p e Y= -Vc e p Y:=by unfold Vc;grind
theorem jen (e p q:Leg) (Y:Int) :Vc e q Y*den p=Vc e p Y*den q+Vc p q Y*den e:=by unfold Vc;grind
theorem jfr (e p q:Leg) :I6 e q*den p=I6 e p*den q+I6 p q*den e:=by unfold I6;grind
theorem Ol (p:Leg) :num p p.ay=p.ax*den p:=by unfold num;grind
theorem On (p:Leg) :num p p.b_y=p.bx*den p:=by unfold num den;grind
theorem PF (e p:Leg) :Vc e p e.ay=den e* (e.ax*den p- num p e.ay) :=by unfold Vc;rw [Ol];grind
theorem jbD (e p:Leg) :Vc e p e.b_y=den e* (e.bx*den p- num p e.b_y) :=by unfold Vc;rw [On];grind
def va (e:Leg) (Y:Int) :Bool:=decide (e.ay≤Y) &&decide (Y<e.b_y)
theorem qX {e:Leg} {Y:Int} :va e Y=true↔e.ay≤Y∧Y<e.b_y:=by simp [va]
def W5 (e p:Leg) :Int:=max e.ay p.ay
def um (e p:Leg) :Int:=min e.b_y p.b_y
def Z6 (e p:Leg) :Bool:=decide (0<Vc e p (W5 e p) +Vc e p (um e p))
def rgY (e p:Leg) (Y:Int) :Prop:=0<Vc e p Y∨(Vc e p Y=0∧0<I6 e p)
theorem VX {a b:Int} (hb:0<b) (h:0<a*b) :0<a:=by
 rcases Int.lt_or_le 0 a with h1 | h1
 ·exact h1
 ·have:=jiF (show 0≤-a by omega) (ji5 hb)
  rw [Int.neg_mul] at this
  omega
theorem wa {a b:Int} (hb:0<b) (h:a*b=0) :a=0:=by
 rcases Int.mul_eq_zero.1 h with h | h
 ·exact h
 ·omega
theorem Hq {e p q:Leg} {Y:Int} (he:0<den e) (hp:0<den p) (hq:0<den q) (h1:rgY e p Y) (h2:rgY p q Y) :rgY e q Y:=by
 have t1:=jen e p q Y
 have t2:=jfr e p q
 rcases h1 with h1 |⟨h1,h1'⟩
 ·have a1:=jiU h1 hq
  rcases h2 with h2 |⟨h2,_⟩
  ·have a2:=jiU h2 he
   exact .inl (VX hp Om)
  ·rw [h2,ji7] at t1
   exact .inl (VX hp Om)
 ·rw [h1,ji7] at t1
  rcases h2 with h2 |⟨h2,h2'⟩
  ·have a2:=jiU h2 he
   exact .inl (VX hp Om)
  ·rw [h2,ji7] at t1
   have a1:=jiU h1' hq
   have a2:=jiU h2' he
   exact .inr ⟨wa hp Om,VX hp Om⟩
structure SepE (e p:Leg) :Prop where
 side:0<den e→0<den p→W5 e p<um e p→(0≤Vc e p (W5 e p)∧0≤Vc e p (um e p)∧0<Vc e p (W5 e p) +Vc e p (um e p))∨(Vc e p (W5 e p)≤0∧Vc e p (um e p)≤0∧Vc e p (W5 e p) +Vc e p (um e p) <0)
 endA:0<den p→p.ay<e.ay→e.ay<p.b_y→e.ax*den p≠num p e.ay
 endB:0<den p→p.ay<e.b_y→e.b_y<p.b_y→e.bx*den p≠num p e.b_y
 flat:0<den p→e.ay=e.b_y→p.ay<e.ay→e.ay<p.b_y→(num p e.ay<e.ax*den p∧num p e.ay<e.bx*den p)∨(e.ax*den p<num p e.ay∧e.bx*den p<num p e.ay)
structure SepL (e p:Leg) :Prop where
 lev:p.ay=p.b_y→0<den e→e.ay≤p.ay→p.ay≤e.b_y→num e p.ay≤p.ax*den e∨p.bx*den e≤num e p.ay
 lev2:p.ay=p.b_y→e.ay=e.b_y→e.ay=p.ay→e.bx≤p.ax∨p.bx≤e.ax
theorem uY {e p:Leg} {Y:Int} (h:SepE e p) (he:va e Y=true) (hp:va p Y=true) :Z6 e p=true↔rgY e p Y:=by
 rw [qX] at he hp
 have de:0<den e:=by unfold den;omega
 have dp:0<den p:=by unfold den;omega
 have hL:W5 e p≤Y:=by unfold W5;omega
 have hU:Y<um e p:=by unfold um;omega
 have hs:=h.side de dp Om
 have l1:=Vu e p (W5 e p) Y
 have l2:=Vu e p Y (um e p)
 have l3:=Vu e p (W5 e p) (um e p)
 unfold Z6 rgY
 rw [decide_eq_true_iff]
 generalize Vc e p (W5 e p) =a at*
 generalize Vc e p (um e p) =b at*
 generalize Vc e p Y=c at*
 generalize W5 e p=L at*
 generalize um e p=U at*
 generalize I6 e p=s at*
 have main:c* (U- L) =a* (U- Y) +b* (Y- L) :=by
  have:b=a+s* (U- L) :=l3
  rw [l1,this];grind
 rcases hs with⟨h1,h2,h3⟩ |⟨h1,h2,h3⟩
 ·refine⟨fun _=> ?_,fun _=>h3⟩
  have m1:=jiF h1 (show 0≤U- Y by omega)
  have m2:=jiF h2 (show 0≤Y- L by omega)
  rcases ji1 c 0 with hc | hc | hc
  ·have:=jjh hc (show 0<U- L by omega)
   omega
  ·right
   refine⟨hc,?_⟩
   rw [hc,ji7] at main
   have ha:a=0:=wa (show 0<U- Y by omega) Om
   have hb:0<s* (U- L) :=by omega
   exact VX Om hb
  ·exact .inl hc
 ·refine⟨fun k=>absurd k Om,fun k=> ?_⟩
  exfalso
  have m1:=jiF (show 0≤-a by omega) (show 0≤U- Y by omega)
  have m2:=jiF (show 0≤-b by omega) (show 0≤Y- L by omega)
  rw [Int.neg_mul] at m1 m2
  rcases k with k |⟨k,k'⟩
  ·have:=jiU k (show 0<U- L by omega)
   omega
  ·rw [k,ji7] at main
   have ha: -a=0:=wa (show 0<U- Y by omega) (by rw [Int.neg_mul];omega)
   have:=jiU k' (show 0<U- L by omega)
   omega
theorem jeK (e p:Leg) :W5 e p=W5 p e:=by unfold W5;omega
theorem jex (e p:Leg) :um e p=um p e:=by unfold um;omega
theorem jc7 {e p:Leg} {Y:Int} (h:SepE e p) (he:va e Y=true) (hp:va p Y=true) : (Z6 e p=true∨Z6 p e=true) :=by
 rw [qX] at he hp
 have hs:=h.side (by unfold den;omega) (by unfold den;omega) (by unfold W5 um;omega)
 unfold Z6
 rw [decide_eq_true_iff,decide_eq_true_iff,←jeK e p,←jex e p,Xj e p,Xj e p]
 omega
theorem Hr (p:Leg) :Z6 p p=false:=by
 unfold Z6
 have h1:∀Y,Vc p p Y=0:=fun Y=>by unfold Vc;omega
 rw [h1,h1]
 rfl
def Cr (p:Leg) (Y Z x y:Int) :Int:=if(Y<y∧y≤Z)∧num p y<x*den p then 1 else 0
def ix (b:Bool) :Int:=if b=true then 1 else 0
theorem xz {d x y:Int} (hd:0<d) :0<d* (x- y)↔y<x:=by
 constructor
 ·intro h
  have:=VX hd (show 0< (x- y) *d by rw [jiV];exact h)
  omega
 ·intro h
  exact jiU hd Om
theorem TY {e p:Leg} {Y Z:Int} (h:SepE e p) (dp:0<den p) (hab:e.ay≤e.b_y) (h1:p.ay≤Y) (h2:Y≤Z) (h3:Z<p.b_y) :
  ix (va e Z&&Z6 e p) - ix (va e Y&&Z6 e p) =Cr p Y Z e.ax e.ay- Cr p Y Z e.bx e.b_y:=by
 rcases jjS hab with hlt | heq
 ·have de:0<den e:=by unfold den;omega
  have onA:Y<e.ay→e.ay≤Z→Cr p Y Z e.ax e.ay=ix (Z6 e p) :=fun a1 a2=>by
   have hs:=h.side de dp (by unfold W5 um;omega)
   have eL:W5 e p=e.ay:=by unfold W5;omega
   have hne:=h.endA dp Om Om
   have hd:=PF e p
   rw [eL] at hs
   have hiff:=xz (x:=e.ax*den p) (y:=num p e.ay) de
   rw [←hd] at hiff
   have hz:Vc e p e.ay≠0:=fun h0=>by
    rw [hd] at h0
    rcases Int.mul_eq_zero.1 h0 with h0 | h0<;>omega
   unfold Cr ix Z6
   rw [eL]
   by_cases hp:num p e.ay<e.ax*den p
   ·rw [if_pos ⟨⟨a1,a2⟩,hp⟩,if_pos (decide_eq_true (by have:=hiff.2 hp;omega))]
   ·rw [if_neg (fun k=>hp k.2),if_neg (by rw [decide_eq_true_iff];have:¬0<Vc e p e.ay:=fun k=>hp (hiff.1 k);omega)]
  have DT:Y<e.b_y→e.b_y≤Z→Cr p Y Z e.bx e.b_y=ix (Z6 e p) :=fun a1 a2=>by
   have hs:=h.side de dp (by unfold W5 um;omega)
   have eU:um e p=e.b_y:=by unfold um;omega
   have hne:=h.endB dp Om Om
   have hd:=jbD e p
   rw [eU] at hs
   have hiff:=xz (x:=e.bx*den p) (y:=num p e.b_y) de
   rw [←hd] at hiff
   have hz:Vc e p e.b_y≠0:=fun h0=>by
    rw [hd] at h0
    rcases Int.mul_eq_zero.1 h0 with h0 | h0<;>omega
   unfold Cr ix Z6
   rw [eU]
   by_cases hp:num p e.b_y<e.bx*den p
   ·rw [if_pos ⟨⟨a1,a2⟩,hp⟩,if_pos (decide_eq_true (by have:=hiff.2 hp;omega))]
   ·rw [if_neg (fun k=>hp k.2),if_neg (by rw [decide_eq_true_iff];have:¬0<Vc e p e.b_y:=fun k=>hp (hiff.1 k);omega)]
  have offA:¬(Y<e.ay∧e.ay≤Z)→Cr p Y Z e.ax e.ay=0:=fun k=>if_neg (fun q=>k q.1)
  have offB:¬(Y<e.b_y∧e.b_y≤Z)→Cr p Y Z e.bx e.b_y=0:=fun k=>if_neg (fun q=>k q.1)
  have actv:∀W,ix (va e W&&Z6 e p) =if e.ay≤W∧W<e.b_y then ix (Z6 e p) else 0:=fun W=>by
   unfold ix
   by_cases hw:e.ay≤W∧W<e.b_y
   ·rw [if_pos hw,qX.2 hw,jix]
   ·have:va e W=false:=by cases k:va e W with | false=>rfl | true=>exact absurd (qX.1 k) hw
    rw [if_neg hw,this]
    rfl
  rw [actv,actv]
  by_cases a1:Y<e.ay∧e.ay≤Z
  ·rw [onA a1.1 a1.2]
   by_cases b1:Y<e.b_y∧e.b_y≤Z
   ·rw [DT b1.1 b1.2,if_neg Om,if_neg Om]
    omega
   ·rw [offB b1,if_pos Om,if_neg Om]
  ·rw [offA a1]
   by_cases b1:Y<e.b_y∧e.b_y≤Z
   ·rw [DT b1.1 b1.2,if_neg Om,if_pos Om]
   ·rw [offB b1]
    by_cases c1:e.ay≤Y∧Y<e.b_y
    ·rw [if_pos Om,if_pos c1]
     omega
    ·rw [if_neg Om,if_neg c1]
 ·have na:∀W,ix (va e W&&Z6 e p) =0:=fun W=>by
   have:va e W=false:=by cases k:va e W with | false=>rfl | true=> (have:=qX.1 k;omega)
   rw [this]
   rfl
  rw [na,na]
  unfold Cr
  rw [←heq]
  by_cases hr:Y<e.ay∧e.ay≤Z
  ·have hf:=h.flat dp heq Om Om
   rcases hf with hf | hf
   ·rw [if_pos ⟨hr,hf.1⟩,if_pos ⟨hr,hf.2⟩]
    rfl
   ·rw [if_neg (fun k=>by omega),if_neg (fun k=>by omega)]
  ·rw [if_neg (fun k=>hr k.1),if_neg (fun k=>hr k.1)]
structure Net (K:List Leg) (N:Leg→Int) :Prop where
 nd:K.Nodup
 ord:∀e∈K,vh (lA e) (lB e)
 sep:∀e∈K,∀p∈K,e≠p→SepE e p
 close:∀f:Int→Int→Int,sm (fun e=>N e* (f e.ax e.ay- f e.bx e.b_y)) K=0
theorem jfW {e:Leg} (h:vh (lA e) (lB e)) :e.ay≤e.b_y:=by
 rcases h with h |⟨h,_⟩
 ·exact ji5 h
 ·exact jjX h
def KF (K:List Leg) (N:Leg→Int) (p:Leg) (Y:Int) :Int:=sm (fun e=>if e=p then 0 else N e*ix (va e Y&&Z6 e p)) K
theorem Lj {K:List Leg} {N:Leg→Int} (h:Net K N) {p:Leg} (hp:p∈K) {Y Z:Int} (h1:p.ay≤Y) (h2:Y≤Z) (h3:Z<p.b_y) :KF K N p Z=KF K N p Y:=by
 have dp:0<den p:=by unfold den;omega
 have key:sm (fun e=> (if e=p then 0 else N e*ix (va e Z&&Z6 e p)) - (if e=p then 0 else N e*ix (va e Y&&Z6 e p))) K=sm (fun e=>N e* (Cr p Y Z e.ax e.ay- Cr p Y Z e.bx e.b_y)) K:=by
  refine JW fun e he=> ?_
  by_cases hep:e=p
  ·rw [if_pos hep,if_pos hep,hep]
   have a:Cr p Y Z p.ax p.ay=0:=if_neg (fun k=>by omega)
   have b:Cr p Y Z p.bx p.b_y=0:=if_neg (fun k=>by omega)
   rw [a,b]
   simp
  ·rw [if_neg hep,if_neg hep,←TY (h.sep e he p hp hep) dp (jfW (h.ord e he)) h1 h2 h3]
   grind
 rw [yu,h.close (Cr p Y Z)] at key
 unfold KF
 omega
theorem YH {K:List Leg} {N:Leg→Int} (h:Net K N) {p:Leg} (hp:p∈K) {Y Z:Int} (hY:va p Y=true) (hZ:va p Z=true) :KF K N p Z=KF K N p Y:=by
 rw [qX] at hY hZ
 rcases Int.le_total Y Z with k | k
 ·exact Lj h hp hY.1 k hZ.2
 ·exact(Lj h hp hZ.1 k hY.2).symm
theorem uy {K:List Leg} {N:Leg→Int} {q:Leg→Bool} :sm (fun e=>N e*ix (q e)) K=sm N (K.filter q) :=by
 rw [Ln]
 refine JW fun e _=> ?_
 unfold ix
 split<;>simp
structure UpR (K R:List Leg) (Y:Int) :Prop where
 sub:∀e∈R,e∈K∧va e Y=true
 nd:R.Nodup
 all:∀p∈R,∀e∈K,va e Y=true→Z6 e p=true→e∈R
theorem Nz {l m:List Leg} (hl:l.Nodup) (hm:m.Nodup) (h:∀x,x∈l↔x∈m) :l.Perm m:= (jj6 hl hm).2 h
theorem X2 {K R:List Leg} {N:Leg→Int} {Y:Int} (h:Net K N) (hu:UpR K R Y) {p:Leg} (hp:p∈R) :vX (fun p e=>Z6 e p) N R p=KF K N p Y:=by
 unfold vX KF
 have e1:sm (fun e=>if e=p then 0 else N e*ix (va e Y&&Z6 e p)) K=sm N (K.filter fun e=>va e Y&&Z6 e p) :=by
  rw [←uy]
  refine JW fun e _=> ?_
  by_cases hep:e=p
  ·rw [if_pos hep,hep,Hr,ji9]
   simp [ix]
  ·rw [if_neg hep]
 have e2:sm (fun e=>if Z6 e p=true then N e else 0) R=sm N (R.filter fun e=>Z6 e p) := (Ln _ _ _).symm
 rw [e1,e2]
 refine wj _ (Nz (hu.nd.filter _) (h.nd.filter _) fun x=> ?_)
 simp only [ji6,jig]
 constructor
 ·rintro⟨h1,h2⟩
  exact⟨(hu.sub x h1).1,(hu.sub x h1).2,h2⟩
 ·rintro⟨h1,h2,h3⟩
  exact⟨hu.all p hp x h1 h2 h3,h3⟩
theorem ray {K R:List Leg} {N M:Leg→Int} {Y:Int} (hN:Net K N) (hM:Net K M) (hu:UpR K R Y) (g:Int→Int→Int) :
  sm (fun p=>g (KF K N p Y+N p) (KF K M p Y+M p) - g (KF K N p Y) (KF K M p Y)) R=g (sm N R) (sm M R) - g 0 0:=by
 have hd:∀e∈R,0<den e:=fun e he=>by have:=qX.1 (hu.sub e he).2;unfold den;omega
 have hs:∀a∈R,∀b∈R,a≠b→SepE a b:=fun a ha b hb hn=>hN.sep a (hu.sub a ha).1 b (hu.sub b hb).1 hn
 have ht:=jhR (fun p e=>Z6 e p) N M g R.length R rfl hu.nd
  (fun a ha b hb hn=> (jc7 (hs b hb a ha (Ne.symm hn)) (hu.sub b hb).2 (hu.sub a ha).2))
  (fun a ha b hb c hc h1 h2=>by
   by_cases hab:b=a
   ·subst hab;exact h2
   ·by_cases hbc:c=b
    ·subst hbc;exact h1
    ·have r1:= (uY (hs b hb a ha hab) (hu.sub b hb).2 (hu.sub a ha).2).1 h1
     have r2:= (uY (hs c hc b hb hbc) (hu.sub c hc).2 (hu.sub b hb).2).1 h2
     have r3:=Hq (hd c hc) (hd b hb) (hd a ha) r2 r1
     by_cases hac:c=a
     ·subst hac
      exfalso
      have z1:Vc c c Y=0:=by unfold Vc;omega
      have z2:I6 c c=0:=by unfold I6;omega
      unfold rgY at r3
      omega
     ·exact(uY (hs c hc a ha hac) (hu.sub c hc).2 (hu.sub a ha).2).2 r3)
  (fun a _=>Hr a)
 rw [←ht]
 refine JW fun p hp=> ?_
 rw [X2 hN hu hp,X2 hM hu hp]
theorem OY {α:Type} [DecidableEq α] {K:List α} (hn:K.Nodup) {k:α} (hk:k∈K) (F:α→Int) :sm (fun x=>if k=x then F x else 0) K=F k:=by
 induction K with
 | nil=>cases hk
 | cons a l ih=>
  simp only [sm]
  rw [jjF] at hn
  by_cases h:k=a
  ·rw [if_pos h,JW (g:=fun _=>0) (fun x hx=>if_neg (fun e=>hn.1 (by rw [←h,e];exact hx))),WU,h]
   omega
  ·rw [if_neg h,ih hn.2 ((jir.1 hk).resolve_left h)]
   omega
theorem X1 {K:List Leg} (hn:K.Nodup) (F:Leg→Int) :∀(E:List Leg),(∀e∈E,Q5 e∈K)→sm (fun e=>sg e*F (Q5 e)) E=sm (fun k=>Qe E k*F k) K
 | [],_=>by
  have:sm (fun k=>Qe [] k*F k) K=sm (fun _=> (0:Int)) K:=JW fun k _=>by simp [Qe,sm]
  rw [this,WU]
  rfl
 | e::E,h=>by
  have ih:=X1 hn F E (fun x hx=>h x (jiq _ hx))
  have e1:sm (fun k=>Qe (e::E) k*F k) K=sm (fun k=> (if Q5 e=k then sg e*F k else 0) +Qe E k*F k) K:=JW fun k _=>by
   simp only [Qe,sm]
   split<;>grind
  rw [e1,xM,OY hn (h e (by simp)) (fun k=>sg e*F k),←ih]
  rfl
theorem HJ (e:Leg) (x y:Int) :sg e*Qw (Q5 e) x y=Qw e x y:=by
 unfold sg Q5
 split
 ·rw [Ye];omega
 ·omega
def Cw (x y:Int) (e:Leg) :Bool:=va e y&&decide (x*den e<num e y)
theorem C1 (e:Leg) (x y:Int) :Q8 e.ax e.ay e.bx e.b_y x y=num e y- x*den e:=by unfold Q8 num den;grind
theorem Gq {e:Leg} (h:vh (lA e) (lB e)) (x y:Int) :Qw e x y=ix (Cw x y e) :=by
 have hy:e.ay≤e.b_y:=by
  rcases h with h |⟨h,_⟩
  ·exact ji5 h
  ·exact jjX h
 rw [UT,C1]
 unfold ix Cw va
 by_cases h1: (e.ay≤y∧y<e.b_y)∧0<num e y- x*den e
 ·rw [if_pos h1,if_pos (by simp;omega)]
 ·rw [if_neg h1,if_neg Om,if_neg (by simp;omega)]
theorem jhf {K:List Leg} {N:Leg→Int} (h:Net K N) (x y:Int) :UpR K (K.filter (Cw x y)) y where
 sub:=fun e he=>by
  have:=ji6.1 he
  refine⟨this.1,?_⟩
  have h2:=this.2
  unfold Cw at h2
  rw [jig] at h2
  exact h2.1
 nd:=h.nd.filter _
 all:=fun p hp e he ha hr=>by
  obtain ⟨hpK,hp2⟩ :=ji6.1 hp
  unfold Cw at hp2
  rw [jig,decide_eq_true_iff] at hp2
  refine ji6.2 ⟨he,?_⟩
  unfold Cw
  rw [ha,jix,decide_eq_true_iff]
  by_cases hep:e=p
  ·rw [hep];exact hp2.2
  ·have hg:= (uY (h.sep e he p hpK hep) ha hp2.1).1 hr
   have de:0<den e:=by have:=qX.1 ha;unfold den;omega
   have dp:0<den p:=by have:=qX.1 hp2.1;unfold den;omega
   have h0:0≤num e y*den p- num p y*den e:=by
    have:0≤Vc e p y:=by unfold rgY at hg;omega
    exact this
   have h1:=jiz hp2.2 de
   have h2:x*den e*den p<num e y*den p:=by
    have:x*den e*den p=x*den p*den e:=by grind
    omega
   exact jiP h2 (ji5 dp)
theorem ES {K:List Leg} {N:Leg→Int} (h:Net K N) {p:Leg} (hp:p∈K) (hl:p.ay<p.b_y) {mx my:Int} (hx:2*mx=p.ax+p.bx) (hy:2*my=p.ay+p.b_y) :
  sm (fun e=>if e=p then 0 else N e*Qw e mx my) K=KF K N p my:=by
 have dp:0<den p:=by unfold den;omega
 have hm:num p my=mx*den p:=by
  have e1:2*num p my=2* (mx*den p) :=by
   have:2*num p my=2*p.ax*den p+ (p.bx- p.ax) * (2*my- 2*p.ay) :=by unfold num;grind
   rw [this,hy]
   have:2* (mx*den p) = (2*mx) *den p:=by grind
   rw [this,hx]
   unfold den
   grind
  omega
 unfold KF
 refine JW fun e he=> ?_
 by_cases hep:e=p
 ·rw [if_pos hep,if_pos hep]
 ·rw [if_neg hep,if_neg hep,Gq (h.ord e he)]
  have hs:=h.sep e he p hp hep
  have:Cw mx my e= (va e my&&Z6 e p) :=by
   unfold Cw
   cases ha:va e my with
   | false=>rfl
   | true=>
    rw [jix,jix,jiN,decide_eq_true_iff,uY hs ha (qX.2 ⟨by omega,by omega⟩)]
    have ha2:=qX.1 ha
    have de:0<den e:=by unfold den;omega
    have hd:Vc e p my=den p* (num e my- mx*den e) :=by unfold Vc;rw [hm];grind
    have hne:Vc e p my≠0:=fun h0=>by
     have hL:W5 e p≤my:=by unfold W5;omega
     have hU:my<um e p:=by unfold um;omega
     rcases jjS hL with h1 | h1
     ·have hsd:=hs.side de dp Om
      have l1:=Vu e p (W5 e p) my
      have l3:=Vu e p (W5 e p) (um e p)
      rw [h0] at l1
      have main:0=Vc e p (W5 e p) * (um e p- my) +Vc e p (um e p) * (my- W5 e p) :=by
       rw [l3]
       generalize Vc e p (W5 e p) =a at*
       generalize I6 e p=s at*
       generalize W5 e p=L at*
       generalize um e p=U at*
       have:a= -(s* (my- L)) :=by omega
       rw [this];grind
      rcases hsd with⟨b1,b2,b3⟩ |⟨b1,b2,b3⟩
      ·have m1:=jiF b1 (show 0≤um e p- my by omega)
       have m2:=jiF b2 (show 0≤my- W5 e p by omega)
       have z1:=wa (a:=Vc e p (W5 e p)) (show 0<um e p- my by omega) Om
       have z2:=wa (a:=Vc e p (um e p)) (show 0<my- W5 e p by omega) Om
       omega
      ·have m1:=jiF (show 0≤-Vc e p (W5 e p) by omega) (show 0≤um e p- my by omega)
       have m2:=jiF (show 0≤-Vc e p (um e p) by omega) (show 0≤my- W5 e p by omega)
       rw [Int.neg_mul] at m1 m2
       have z1:=wa (a:=Vc e p (W5 e p)) (show 0<um e p- my by omega) Om
       have z2:=wa (a:=Vc e p (um e p)) (show 0<my- W5 e p by omega) Om
       omega
     ·have he2:e.ay=my:=by unfold W5 at h1;omega
      have hA:=hs.endA dp Om Om
      have:=PF e p
      rw [he2,h0] at this
      rcases Int.mul_eq_zero.1 this.symm with k | k
      ·omega
      ·rw [he2] at hA;omega
    have hiff:0<Vc e p my↔mx*den e<num e my:=by rw [hd];exact xz dp
    unfold rgY
    omega
  rw [this]
theorem X8 {α β:Type} (f:β→Int) (g:α→List β) :∀l:List α,sm f (l.flatMap g) =sm (fun x=>sm f (g x)) l
 | [] =>rfl
 | x::l=>by rw [jiB,Kn,X8 f g l];rfl
theorem Mq (p:Leg) (l r:Bool) (f:Leg→Int) (hf:f (Qn p) = -f p) :sm f (zk p l r) = (ix l- ix r) *f p:=by
 unfold zk ix
 cases l<;>cases r<;>simp [sm,hf]
abbrev tw (e:Leg) :Leg:=Q2 true e
theorem yv (e:Leg) :Q5 (tw e) =tw (Q5 e) :=by
 unfold Q5
 have:vh (lB (tw e)) (lA (tw e))↔vh (lB e) (lA e) :=by simp only [vh,lA,lB,tw,Q2,if_true];omega
 by_cases h:vh (lB e) (lA e)
 ·rw [if_pos h,if_pos (this.2 h)];rfl
 ·rw [if_neg h,if_neg (fun k=>h (this.1 k))]
theorem Fm (e:Leg) :sg (tw e) =sg e:=by
 unfold sg
 have:vh (lB (tw e)) (lA (tw e))↔vh (lB e) (lA e) :=by simp only [vh,lA,lB,tw,Q2,if_true];omega
 by_cases h:vh (lB e) (lA e)
 ·rw [if_pos h,if_pos (this.2 h)]
 ·rw [if_neg h,if_neg (fun k=>h (this.1 k))]
theorem Bf {e f:Leg} (h:tw e=tw f) :e=f:=by
 rcases e with⟨a1,a2,a3,a4⟩
 rcases f with⟨b1,b2,b3,b4⟩
 simp only [tw,Q2,if_true,Leg.mk.injEq] at h
 rw [Leg.mk.injEq]
 omega
theorem HH (E:List Leg) (p:Leg) :Qe (E.map tw) (tw p) =Qe E p:=by
 unfold Qe
 rw [VZ]
 refine JW fun e _=> ?_
 rw [yv,Fm]
 by_cases h:Q5 e=p
 ·rw [if_pos h,if_pos (by rw [h])]
 ·rw [if_neg h,if_neg (fun k=>h (Bf k))]
theorem WY (e:Leg) :den (tw e) =2*den e:=by simp only [den,tw,Q2,if_true];omega
theorem HI (e:Leg) (Y:Int) :num (tw e) (2*Y) =4*num e Y:=by simp only [num,den,tw,Q2,if_true];grind
theorem Tz (e:Leg) (x y:Int) :Qw (tw e) (2*x) (2*y) =Qw e x y:=by
 rw [UT,UT]
 have:Q8 (tw e).ax (tw e).ay (tw e).bx (tw e).b_y (2*x) (2*y) =4*Q8 e.ax e.ay e.bx e.b_y x y:=by simp only [Q8,tw,Q2,if_true];grind
 rw [this]
 simp only [tw,Q2,if_true]
 by_cases h: (e.ay≤y∧y<e.b_y)∧0<Q8 e.ax e.ay e.bx e.b_y x y
 ·rw [if_pos h,if_pos Om]
 ·rw [if_neg h,if_neg Om]
  by_cases h2: (e.b_y≤y∧y<e.ay)∧Q8 e.ax e.ay e.bx e.b_y x y<0
  ·rw [if_pos h2,if_pos Om]
  ·rw [if_neg h2,if_neg Om]
theorem jdG (e p:Leg) (Y:Int) :Vc (tw e) (tw p) (2*Y) =8*Vc e p Y:=by
 unfold Vc
 rw [HI,HI,WY,WY]
 grind
theorem jhb {e p:Leg} (h:SepE e p) :SepE (tw e) (tw p) where
 side:=fun h1 h2 h3=>by
  have eL:W5 (tw e) (tw p) =2*W5 e p:=by simp only [W5,tw,Q2,if_true];omega
  have eU:um (tw e) (tw p) =2*um e p:=by simp only [um,tw,Q2,if_true];omega
  rw [WY] at h1 h2
  rw [eL,eU] at h3
  have:=h.side Om Om Om
  rw [eL,eU,jdG,jdG]
  omega
 endA:=fun h1 h2 h3=>by
  rw [WY] at h1
  have e1: (tw e).ay=2*e.ay:=rfl
  have e2: (tw e).ax=2*e.ax:=rfl
  have e3: (tw p).ay=2*p.ay:=rfl
  have e4: (tw p).b_y=2*p.b_y:=rfl
  rw [e1,e3] at h2
  rw [e1,e4] at h3
  have:=h.endA Om Om Om
  rw [e1,e2,HI,WY]
  intro k
  have k4:4* (e.ax*den p) =4*num p e.ay:= (by rw [←k];grind)
  exact this Om
 endB:=fun h1 h2 h3=>by
  rw [WY] at h1
  have e1: (tw e).b_y=2*e.b_y:=rfl
  have e2: (tw e).bx=2*e.bx:=rfl
  have e3: (tw p).ay=2*p.ay:=rfl
  have e4: (tw p).b_y=2*p.b_y:=rfl
  rw [e1,e3] at h2
  rw [e1,e4] at h3
  have:=h.endB Om Om Om
  rw [e1,e2,HI,WY]
  intro k
  have k4:4* (e.bx*den p) =4*num p e.b_y:= (by rw [←k];grind)
  exact this Om
 flat:=fun h1 h0 h2 h3=>by
  rw [WY] at h1
  have e0: (tw e).b_y=2*e.b_y:=rfl
  have e1: (tw e).ay=2*e.ay:=rfl
  have e2: (tw e).ax=2*e.ax:=rfl
  have e2': (tw e).bx=2*e.bx:=rfl
  have e3: (tw p).ay=2*p.ay:=rfl
  have e4: (tw p).b_y=2*p.b_y:=rfl
  rw [e1,e0] at h0
  rw [e1,e3] at h2
  rw [e1,e4] at h3
  have:=h.flat Om Om Om Om
  rw [e1,e2,e2',HI,WY]
  have q1:2*e.ax* (2*den p) =4* (e.ax*den p) :=by grind
  have q2:2*e.bx* (2*den p) =4* (e.bx*den p) :=by grind
  rw [q1,q2]
  omega
theorem jfE {e p:Leg} (h:SepL e p) :SepL (tw e) (tw p) where
 lev:=fun h1 h2 h3 h4=>by
  rw [WY] at h2
  have e1: (tw p).ay=2*p.ay:=rfl
  have e2: (tw p).b_y=2*p.b_y:=rfl
  have e3: (tw e).ay=2*e.ay:=rfl
  have e4: (tw e).b_y=2*e.b_y:=rfl
  have e5: (tw p).ax=2*p.ax:=rfl
  have e6: (tw p).bx=2*p.bx:=rfl
  rw [e1,e2] at h1
  rw [e1,e3] at h3
  rw [e1,e4] at h4
  have:=h.lev Om Om Om Om
  rw [e1,e5,e6,HI,WY]
  have q1:2*p.ax* (2*den e) =4* (p.ax*den e) :=by grind
  have q2:2*p.bx* (2*den e) =4* (p.bx*den e) :=by grind
  rw [q1,q2]
  omega
 lev2:=fun h1 h2 h3=>by
  simp only [tw,Q2,if_true] at h1 h2 h3⊢
  have:=h.lev2 Om Om Om
  omega
theorem jdH:∀ {K:List Leg},K.Nodup→(K.map tw).Nodup
 | [],_=>List.nodup_nil
 | a::l,h=>by
  rw [jjF] at h
  rw [jiA,jjF]
  refine⟨fun k=> ?_,jdH h.2⟩
  obtain ⟨b,hb,e⟩ :=jip.1 k
  exact h.1 (Bf e▸hb)
structure Keys (K E:List Leg) :Prop where
 nd:K.Nodup
 ord:∀p∈K,vh (lA p) (lB p)
 sep:∀e∈K,∀p∈K,e≠p→SepE e p
 sepl:∀e∈K,∀p∈K,e≠p→SepL e p
 all:∀e∈E,Q5 e∈K
 close:∀f:Int→Int→Int,sm (fun e:Leg=>f e.ax e.ay- f e.bx e.b_y) E=0
theorem Keys.net {K E:List Leg} (h:Keys K E) :Net (K.map tw) (Qe (E.map tw)) where
 nd:=jdH h.nd
 ord:=fun e he=>by
  obtain ⟨p,hp,rfl⟩ :=jip.1 he
  have:=h.ord p hp
  simp only [vh,lA,lB,tw,Q2,if_true] at this⊢
  omega
 sep:=fun e he p hp hn=>by
  obtain ⟨e0,he0,rfl⟩ :=jip.1 he
  obtain ⟨p0,hp0,rfl⟩ :=jip.1 hp
  exact jhb (h.sep e0 he0 p0 hp0 fun k=>hn (by rw [k]))
 close:=fun f=>by
  have hr:=X1 (K:=K.map tw) (jdH h.nd) (fun e=>f e.ax e.ay- f e.bx e.b_y) (E.map tw) (fun e he=>by
   obtain ⟨e0,he0,rfl⟩ :=jip.1 he
   rw [yv]
   exact jip.2 ⟨_,h.all e0 he0,rfl⟩)
  rw [←hr,VZ]
  rw [←h.close (fun x y=>f (2*x) (2*y))]
  refine JW fun e _=> ?_
  rw [yv,Fm]
  unfold sg Q5
  split
  ·simp only [tw,Q2,if_true,Qn];omega
  ·simp only [tw,Q2,if_true];omega
theorem Keys.wsum {K E:List Leg} (h:Keys K E) (q:Pn) :xW q E=sm (Qe (E.map tw)) ((K.map tw).filter (Cw (2*q.1) (2*q.2))) :=by
 have hr:=X1 (K:=K.map tw) h.net.nd (fun e=>Qw e (2*q.1) (2*q.2)) (E.map tw) (fun e he=>by
   obtain ⟨e0,he0,rfl⟩ :=jip.1 he
   rw [yv]
   exact jip.2 ⟨_,h.all e0 he0,rfl⟩)
 rw [←uy]
 have e1:sm (fun k=>Qe (E.map tw) k*Qw k (2*q.1) (2*q.2)) (K.map tw) =sm (fun e=>Qe (E.map tw) e*ix (Cw (2*q.1) (2*q.2) e)) (K.map tw) :=JW fun k hk=>by rw [Gq (h.net.ord k hk)]
 rw [←e1,←hr,VZ]
 unfold Go.Proofs.YtpncbbcmoiiipaaGreat.xW
 refine JW fun e _=> ?_
 rw [HJ,Tz]
theorem Keys.out {K E:List Leg} (h:Keys K E) {p:Leg} (hp:p∈K) (hl:p.ay<p.b_y) :wy E p=KF (K.map tw) (Qe (E.map tw)) (tw p) (KU p) :=by
 have hm:=ES h.net (p:=tw p) (jip.2 ⟨p,hp,rfl⟩) (by show 2*p.ay<2*p.b_y;omega) (mx:=vC p) (my:=KU p) (by show _=2*p.ax+2*p.bx;unfold vC;omega) (by show _=2*p.ay+2*p.b_y;unfold KU;omega)
 rw [←hm]
 have hr:=X1 (K:=K.map tw) h.net.nd (fun e=>if e=tw p then 0 else Qw e (vC p) (KU p)) (E.map tw) (fun e he=>by
   obtain ⟨e0,he0,rfl⟩ :=jip.1 he
   rw [yv]
   exact jip.2 ⟨_,h.all e0 he0,rfl⟩)
 have e2:sm (fun e=>if e=tw p then 0 else Qe (E.map tw) e*Qw e (vC p) (KU p)) (K.map tw) =sm (fun k=>Qe (E.map tw) k* (if k=tw p then 0 else Qw k (vC p) (KU p))) (K.map tw) :=JW fun k _=>by split<;>simp
 rw [e2,←hr,VZ]
 unfold wy
 refine JW fun e _=> ?_
 rw [yv,Fm]
 by_cases k:Q5 e=p
 ·rw [if_pos k,if_pos (by rw [k])];simp
 ·rw [if_neg k,if_neg (fun c=>k (Bf c)),←HJ (tw e),yv,Fm]
def Kw (K E F:List Leg) (how:Int) :List Leg:=K.flatMap fun p=>zk p (Qy (kX E p).left (kX F p).left how) (Qy (kX E p).right (kX F p).right how)
theorem GR (how:Int) :Qy 0 0 how=false:=by unfold Qy;split<;> (try split) <;> (try split) <;>rfl
theorem jbc {K E F:List Leg} {how:Int} (hE:Keys K E) (hF:Keys K F) (q:Pn) :xW q (Kw K E F how) =ix (Qy (xW q E) (xW q F) how) :=by
 have hr:=ray hE.net hF.net (jhf hE.net (2*q.1) (2*q.2)) (fun a b=>ix (Qy a b how))
 rw [GR] at hr
 rw [hE.wsum,hF.wsum]
 have h0:ix false=0:=rfl
 rw [h0,Int.sub_zero] at hr
 rw [←hr,Ln,VZ]
 unfold Kw Go.Proofs.YtpncbbcmoiiipaaGreat.xW
 rw [X8]
 refine JW fun p hp=> ?_
 rw [Mq p _ _ _ (Ye p q.1 q.2),←Tz]
 rw [Gq (hE.net.ord _ (jip.2 ⟨p,hp,rfl⟩))]
 by_cases hg:Cw (2*q.1) (2*q.2) (tw p) =true
 ·rw [if_pos hg,hg]
  have ha:va (tw p) (2*q.2) =true:=by unfold Cw at hg;rw [jig] at hg;exact hg.1
  have ha2:=qX.1 ha
  have hl:p.ay<p.b_y:=by
   have e1: (tw p).ay=2*p.ay:=rfl
   have e2: (tw p).b_y=2*p.b_y:=rfl
   omega
  have hmid:va (tw p) (KU p) =true:=qX.2 (by
   have e1: (tw p).ay=2*p.ay:=rfl
   have e2: (tw p).b_y=2*p.b_y:=rfl
   unfold KU
   omega)
  have hm:tw p∈K.map tw:=jip.2 ⟨p,hp,rfl⟩
  have k1: (kX E p).left=KF (K.map tw) (Qe (E.map tw)) (tw p) (2*q.2) +Qe (E.map tw) (tw p)∧(kX E p).right=KF (K.map tw) (Qe (E.map tw)) (tw p) (2*q.2) :=by
   unfold kX
   rw [if_neg Om,hE.out hp hl,HH,YH hE.net hm ha hmid]
   exact⟨rfl,rfl⟩
  have k2: (kX F p).left=KF (K.map tw) (Qe (F.map tw)) (tw p) (2*q.2) +Qe (F.map tw) (tw p)∧(kX F p).right=KF (K.map tw) (Qe (F.map tw)) (tw p) (2*q.2) :=by
   unfold kX
   rw [if_neg Om,hF.out hp hl,HH,YH hF.net hm ha hmid]
   exact⟨rfl,rfl⟩
  rw [k1.1,k1.2,k2.1,k2.2]
  have:ix true=1:=rfl
  rw [this,jjM]
 ·rw [if_neg hg]
  have:Cw (2*q.1) (2*q.2) (tw p) =false:=by simpa using hg
  rw [this]
  exact jjP _
section vertex
variable {K:List Leg} {N M:Leg→Int} {X Y:Int}
def BC (X Y W:Int) (s:Bool) (e:Leg) :Bool:=va e W&& (if s=true then decide (X*den e≤num e Y) else decide (X*den e<num e Y))
theorem RP {e p:Leg} {W Y:Int} (h:SepE e p) (he:va e W=true) (hp:va p W=true) (hr:Z6 e p=true) (h1:W≤Y) (h2:Y≤e.b_y) (h3:Y≤p.b_y) :0≤Vc e p Y:=by
 have a1:=qX.1 he
 have a2:=qX.1 hp
 have de:0<den e:=by unfold den;omega
 have dp:0<den p:=by unfold den;omega
 have hL:W5 e p≤W:=by unfold W5;omega
 have hU:Y≤um e p:=by unfold um;omega
 have hU2:W<um e p:=by unfold um;omega
 have hs:=h.side de dp Om
 unfold Z6 at hr
 rw [decide_eq_true_iff] at hr
 have l1:=Vu e p (W5 e p) Y
 have l3:=Vu e p (W5 e p) (um e p)
 generalize Vc e p (W5 e p) =a at*
 generalize Vc e p (um e p) =b at*
 generalize Vc e p Y=c at*
 generalize W5 e p=L at*
 generalize um e p=U at*
 generalize I6 e p=s at*
 have main:c* (U- L) =a* (U- Y) +b* (Y- L) :=by
  have:b=a+s* (U- L) :=l3
  rw [l1,this];grind
 have m1:=jiF (show 0≤a by omega) (show 0≤U- Y by omega)
 have m2:=jiF (show 0≤b by omega) (show 0≤Y- L by omega)
 rcases Int.lt_or_le c 0 with hc | hc
 ·have:=jjh hc (show 0<U- L by omega)
  omega
 ·exact hc
theorem jdI (h:Net K N) (X:Int) {Y W:Int} (s:Bool) (hW:W≤Y) (hY:∀e∈K,va e W=true→Y≤e.b_y) :UpR K (K.filter (BC X Y W s)) W where
 sub:=fun e he=>by
  have:=ji6.1 he
  refine⟨this.1,?_⟩
  have h2:=this.2
  unfold BC at h2
  rw [jig] at h2
  exact h2.1
 nd:=h.nd.filter _
 all:=fun p hp e he ha hr=>by
  obtain ⟨hpK,hp2⟩ :=ji6.1 hp
  unfold BC at hp2
  rw [jig] at hp2
  refine ji6.2 ⟨he,?_⟩
  unfold BC
  rw [ha,jix]
  by_cases hep:e=p
  ·rw [hep];exact hp2.2
  ·have h0:=RP (h.sep e he p hpK hep) ha hp2.1 hr hW (hY e he ha) (hY p hpK hp2.1)
   have de:0<den e:=by have:=qX.1 ha;unfold den;omega
   have dp:0<den p:=by have:=qX.1 hp2.1;unfold den;omega
   have h1:num p Y*den e≤num e Y*den p:=by unfold Vc at h0;omega
   cases s with
   | true=>
    have h2:=hp2.2
    rw [if_pos rfl,decide_eq_true_iff] at h2⊢
    have h3:=jij h2 (ji5 de)
    have h4:X*den e*den p≤num e Y*den p:=by
     have:X*den e*den p=X*den p*den e:=by grind
     omega
    exact jiS h4 dp
   | false=>
    have h2:=hp2.2
    rw [if_neg Dc,decide_eq_true_iff] at h2⊢
    have h3:=jiz h2 de
    have h4:X*den e*den p<num e Y*den p:=by
     have:X*den e*den p=X*den p*den e:=by grind
     omega
    exact jiP h4 (ji5 dp)
theorem EK (h:Net K N) (he2:∀e∈K,(∃a,e.ay=2*a)∧∃b,e.b_y=2*b) (X:Int) {Y:Int} (hY:∃y,Y=2*y) (s:Bool) :
  sm N (K.filter (BC X Y Y s)) - sm N (K.filter (BC X Y (Y- 1) s)) =sm (fun e=>N e*ix (decide (e.ay=e.b_y) &&decide (e.ay=Y) && (if s=true then decide (e.ax<X) &&decide (X≤e.bx) else decide (e.ax≤X) &&decide (X<e.bx)))) K:=by
 obtain ⟨y,hy⟩ :=hY
 have hc:=h.close (fun x' y'=>ix (decide (y'=Y) && (if s=true then decide (X≤x') else decide (X<x'))))
 rw [←uy,←uy,←yu]
 have key:sm (fun e=> (N e*ix (BC X Y Y s e) - N e*ix (BC X Y (Y- 1) s e)) - N e*ix (decide (e.ay=e.b_y) &&decide (e.ay=Y) && (if s=true then decide (e.ax<X) &&decide (X≤e.bx) else decide (e.ax≤X) &&decide (X<e.bx)))) K
   =sm (fun e=>N e* (ix (decide (e.ay=Y) && (if s=true then decide (X≤e.ax) else decide (X<e.ax))) - ix (decide (e.b_y=Y) && (if s=true then decide (X≤e.bx) else decide (X<e.bx))))) K:=by
  refine JW fun e he=> ?_
  obtain ⟨⟨a,ha⟩,b,hb⟩ :=he2 e he
  have ho:=h.ord e he
  have ho2:e.ay<e.b_y∨(e.ay=e.b_y∧e.ax<e.bx) :=ho
  have main:ix (BC X Y Y s e) - ix (BC X Y (Y- 1) s e) - ix (decide (e.ay=e.b_y) &&decide (e.ay=Y) && (if s=true then decide (e.ax<X) &&decide (X≤e.bx) else decide (e.ax≤X) &&decide (X<e.bx))) =ix (decide (e.ay=Y) && (if s=true then decide (X≤e.ax) else decide (X<e.ax))) - ix (decide (e.b_y=Y) && (if s=true then decide (X≤e.bx) else decide (X<e.bx))) :=by
   unfold BC va
   rcases ho2 with hlt |⟨heq,hx⟩
   ·have de:0<den e:=by unfold den;omega
    have nA:e.ay=Y→(X*den e≤num e Y↔X≤e.ax)∧(X*den e<num e Y↔X<e.ax) :=fun k=>by
     rw [←k,Ol]
     exact⟨⟨fun q=>jiS q de,fun q=>jij q (ji5 de)⟩,⟨fun q=>jiP q (ji5 de),fun q=>jiz q de⟩⟩
    have nB:e.b_y=Y→(X*den e≤num e Y↔X≤e.bx)∧(X*den e<num e Y↔X<e.bx) :=fun k=>by
     rw [←k,On]
     exact⟨⟨fun q=>jiS q de,fun q=>jij q (ji5 de)⟩,⟨fun q=>jiP q (ji5 de),fun q=>jiz q de⟩⟩
    have hne:decide (e.ay=e.b_y) =false:=decide_eq_false Om
    rw [hne]
    simp only [jiC]
    have z:ix false=0:=rfl
    rw [z]
    by_cases kA:e.ay=Y
    ·have r1:decide (e.ay≤Y) =true:=decide_eq_true Om
     have r2:decide (Y<e.b_y) =true:=decide_eq_true Om
     have r3:decide (e.ay≤Y- 1) =false:=decide_eq_false Om
     have r4:decide (e.b_y=Y) =false:=decide_eq_false Om
     have r5:decide (e.ay=Y) =true:=decide_eq_true kA
     rw [r1,r2,r3,r4,r5]
     obtain ⟨n1,n2⟩ :=nA kA
     cases s
     ·simp only [jiC,jix,Bool.and_self,z,n2,if_neg (show¬false=true by decide)]
      omega
     ·simp only [jiC,jix,Bool.and_self,z,n1,if_true]
      omega
    ·have r5:decide (e.ay=Y) =false:=decide_eq_false kA
     rw [r5]
     by_cases kB:e.b_y=Y
     ·have r1:decide (Y<e.b_y) =false:=decide_eq_false Om
      have r2:decide (e.ay≤Y- 1) =true:=decide_eq_true Om
      have r3:decide (Y- 1<e.b_y) =true:=decide_eq_true Om
      have r4:decide (e.b_y=Y) =true:=decide_eq_true kB
      rw [r1,r2,r3,r4]
      obtain ⟨n1,n2⟩ :=nB kB
      cases s
      ·simp only [jiC,jix,ji9,Bool.and_self,z,n2,if_neg (show¬false=true by decide)]
       omega
      ·simp only [jiC,jix,ji9,Bool.and_self,z,n1,if_true]
       omega
     ·have r4:decide (e.b_y=Y) =false:=decide_eq_false kB
      have r6:decide (e.ay≤Y) =decide (e.ay≤Y- 1) :=by rw [jiN,decide_eq_true_iff,decide_eq_true_iff];omega
      have r7:decide (Y<e.b_y) =decide (Y- 1<e.b_y) :=by rw [jiN,decide_eq_true_iff,decide_eq_true_iff];omega
      rw [r4,r6,r7]
      simp only [jiC,z]
      omega
   ·have r1:∀W,(decide (e.ay≤W) &&decide (W<e.b_y)) =false:=fun W=>by
     by_cases k:e.ay≤W
     ·rw [decide_eq_false (show¬W<e.b_y by omega),ji9]
     ·rw [decide_eq_false k,jiC]
    rw [r1,r1]
    have r2:decide (e.ay=e.b_y) =true:=decide_eq_true heq
    have r3:decide (e.b_y=Y) =decide (e.ay=Y) :=by rw [heq]
    rw [r2,r3]
    simp only [jiC,jix]
    cases decide (e.ay=Y) with
    | false=>simp only [jiC];rfl
    | true=>
     simp only [jix]
     unfold ix
     cases s<;>simp only [if_true,if_neg (show¬false=true by decide),if_neg (show¬(false=true) by decide),jig,decide_eq_true_eq] <;> (repeat' split) <;>omega
  rw [←main]
  grind
 rw [hc,yu] at key
 omega
end vertex
theorem EC {K:List Leg} :∀e∈K.map tw,(∃a,e.ay=2*a)∧∃b,e.b_y=2*b:=fun e he=>by
 obtain ⟨p,_,rfl⟩ :=jip.1 he
 exact⟨⟨p.ay,rfl⟩,p.b_y,rfl⟩
theorem Vh {K:List Leg} {N:Leg→Int} (h:Net K N) {X Y:Int} {e0:Leg} (h0:e0∈K) (hv: (e0.ax=X∧e0.ay=Y)∨(e0.bx=X∧e0.b_y=Y)) {e:Leg} (he:e∈K) (h1:e.ay<Y) (h2:Y<e.b_y) (hn:num e Y=X*den e) :False:=by
 have hne:e0≠e:=fun k=>by rw [k] at hv;omega
 have hs:=h.sep e0 h0 e he hne
 have de:0<den e:=by unfold den;omega
 rcases hv with⟨v1,v2⟩ |⟨v1,v2⟩
 ·exact hs.endA de Om Om (by rw [v1,v2];exact hn.symm)
 ·exact hs.endB de Om Om (by rw [v1,v2];exact hn.symm)
def dg (g:Int→Int→Int) (K:List Leg) (N M:Leg→Int) (W:Int) (p:Leg) :Int:=g (KF K N p W+N p) (KF K M p W+M p) - g (KF K N p W) (KF K M p W)
theorem TA {K:List Leg} {N M:Leg→Int} (hN:Net K N) (hM:Net K M) (g:Int→Int→Int) (X:Int) {Y W:Int} (hW:W≤Y) (hY:∀e∈K,va e W=true→Y≤e.b_y) :
  sm (fun p=>dg g K N M W p*ix (va p W&&decide (X*den p=num p Y))) K=g (sm N (K.filter (BC X Y W true))) (sm M (K.filter (BC X Y W true))) - g (sm N (K.filter (BC X Y W false))) (sm M (K.filter (BC X Y W false))) :=by
 have r1:=ray hN hM (jdI hN X true hW hY) g
 have r2:=ray hN hM (jdI hN X false hW hY) g
 have e:sm (fun p=>dg g K N M W p*ix (va p W&&decide (X*den p=num p Y))) K=sm (dg g K N M W) (K.filter (BC X Y W true)) - sm (dg g K N M W) (K.filter (BC X Y W false)) :=by
  rw [Ln,Ln,←yu]
  refine JW fun p _=> ?_
  unfold BC ix
  cases va p W with
  | false=>simp
  | true=>
   simp only [jix,if_true,decide_eq_true_eq,if_neg (show¬(false=true) by decide)]
   by_cases a:X*den p=num p Y
   ·rw [if_pos a,if_pos Om,if_neg Om];omega
   ·rw [if_neg a]
    by_cases b:X*den p<num p Y
    ·rw [if_pos Om,if_pos b];omega
    ·rw [if_neg Om,if_neg b];omega
 rw [e]
 unfold dg
 rw [r1,r2]
 omega
def IZ (K:List Leg) (N:Leg→Int) (X Y W:Int) (s:Bool) :Int:=sm N (K.filter (BC X Y W s))
theorem Zo {K:List Leg} {p:Leg} (h:p∈K) :tw p∈K.map tw:=jip.2 ⟨p,h,rfl⟩
theorem Ni {a b:Int} {q:Bool} (h:q=true→a=b) :a*ix q=b*ix q:=by
 cases q with
 | false=>simp [ix]
 | true=>rw [h rfl]
theorem Keys.lev_out {K E:List Leg} (h:Keys K E) {p:Leg} (hp:p∈K) (hl:p.ay=p.b_y) (s:Bool) {X:Int} (hX:X=if s=true then 2*p.bx else 2*p.ax) :
  wy E p=IZ (K.map tw) (Qe (E.map tw)) X (2*p.ay) (2*p.ay) s:=by
 have hx:p.ax<p.bx:=by have:=h.ord p hp;have:p.ay<p.b_y∨(p.ay=p.b_y∧p.ax<p.bx) :=this;omega
 have hr:=X1 (K:=K.map tw) h.net.nd (fun e=>if e=tw p then 0 else Qw e (vC p) (KU p)) (E.map tw) (fun e he=>by
   obtain ⟨e0,he0,rfl⟩ :=jip.1 he
   rw [yv]
   exact jip.2 ⟨_,h.all e0 he0,rfl⟩)
 have e1:wy E p=sm (fun e=>sg e* (if Q5 e=tw p then 0 else Qw (Q5 e) (vC p) (KU p))) (E.map tw) :=by
  rw [VZ]
  unfold wy
  refine JW fun e _=> ?_
  rw [yv,Fm]
  by_cases k:Q5 e=p
  ·rw [if_pos k,if_pos (by rw [k])];simp
  ·rw [if_neg k,if_neg (fun c=>k (Bf c)),←HJ (tw e),yv,Fm]
 rw [e1,hr]
 unfold IZ
 rw [←uy]
 refine JW fun e he=> ?_
 congr 1
 obtain ⟨e0,he0,rfl⟩ :=jip.1 he
 by_cases hep:e0=p
 ·rw [if_pos (by rw [hep]),hep]
  have:va (tw p) (2*p.ay) =false:=by
   cases k:va (tw p) (2*p.ay) with
   | false=>rfl
   | true=>
    have:= (qX.1 k).2
    have e2: (tw p).b_y=2*p.b_y:=rfl
    omega
  unfold BC
  rw [this]
  rfl
 ·rw [if_neg (fun c=>hep (Bf c)),Gq (h.net.ord _ he)]
  congr 1
  have hm:KU p=2*p.ay:=by unfold KU;omega
  rw [hm]
  unfold Cw BC
  cases ha:va (tw e0) (2*p.ay) with
  | false=>rfl
  | true=>
   rw [jix,jix]
   have ha2:=qX.1 ha
   have de:0<den (tw e0) :=by unfold den;omega
   have hs:= (jfE (h.sepl e0 he0 p hp hep)).lev (by show 2*p.ay=2*p.b_y;omega) de (by show _≤2*p.ay;omega) (by show 2*p.ay≤_;omega)
   have q1: (tw p).ay=2*p.ay:=rfl
   have q2: (tw p).ax=2*p.ax:=rfl
   have q3: (tw p).bx=2*p.bx:=rfl
   rw [q1,q2,q3] at hs
   have m1:2*p.ax*den (tw e0) <vC p*den (tw e0) :=jiz (by unfold vC;omega) de
   have m2:vC p*den (tw e0) <2*p.bx*den (tw e0) :=jiz (by unfold vC;omega) de
   cases s with
   | true=>
    rw [if_pos rfl] at hX
    rw [if_pos rfl,hX,jiN,decide_eq_true_iff,decide_eq_true_iff]
    omega
   | false=>
    rw [if_neg Dc] at hX
    rw [if_neg Dc,hX,jiN,decide_eq_true_iff,decide_eq_true_iff]
    omega
theorem Keys.cover {K E:List Leg} (h:Keys K E) {v:Pn} {e0:Leg} (h0:e0∈K) (hv:lA e0=v∨lB e0=v) (s:Bool) :
  IZ (K.map tw) (Qe (E.map tw)) (2*v.1) (2*v.2) (2*v.2) s- IZ (K.map tw) (Qe (E.map tw)) (2*v.1) (2*v.2) (2*v.2- 1) s
   =sm (fun p=>Qe E p*ix (decide (p.ay=p.b_y) &&decide ((if s=true then lB p else lA p) =v))) K:=by
 unfold IZ
 rw [EK h.net EC (2*v.1) ⟨v.2,rfl⟩ s,VZ]
 refine JW fun p hp=> ?_
 rw [HH]
 congr 1
 congr 1
 have q0: (tw p).b_y=2*p.b_y:=rfl
 have q1: (tw p).ay=2*p.ay:=rfl
 have q2: (tw p).ax=2*p.ax:=rfl
 have q3: (tw p).bx=2*p.bx:=rfl
 rw [q0,q1,q2,q3]
 have ho:p.ay<p.b_y∨(p.ay=p.b_y∧p.ax<p.bx) :=h.ord p hp
 have main:p.ay=p.b_y→p.ay=v.2→¬(p.ax<v.1∧v.1<p.bx) :=fun k1 k2 k3=>by
  have hne:e0≠p:=fun c=>by
   rw [c] at hv
   rcases hv with c | c
   ·have:=congrArg Prod.fst c
    simp only [lA] at this
    omega
   ·have:=congrArg Prod.fst c
    simp only [lB] at this
    omega
  have hs:=h.sepl e0 h0 p hp hne
  have ho0:e0.ay<e0.b_y∨(e0.ay=e0.b_y∧e0.ax<e0.bx) :=h.ord e0 h0
  rcases hv with c | c
  ·have c1:e0.ax=v.1:=congrArg Prod.fst c
   have c2:e0.ay=v.2:=congrArg Prod.snd c
   rcases ho0 with d |⟨d1,d2⟩
   ·have de:0<den e0:=by unfold den;omega
    have hh:=hs.lev k1 de Om Om
    have e1:num e0 p.ay=e0.ax*den e0:=by rw [show p.ay=e0.ay by omega,Ol]
    rw [e1] at hh
    have m1:p.ax*den e0<e0.ax*den e0:=jiz Om de
    have m2:e0.ax*den e0<p.bx*den e0:=jiz Om de
    omega
   ·have hh:=hs.lev2 k1 d1 Om
    omega
  ·have c1:e0.bx=v.1:=congrArg Prod.fst c
   have c2:e0.b_y=v.2:=congrArg Prod.snd c
   rcases ho0 with d |⟨d1,d2⟩
   ·have de:0<den e0:=by unfold den;omega
    have hh:=hs.lev k1 de Om Om
    have e1:num e0 p.ay=e0.bx*den e0:=by rw [show p.ay=e0.b_y by omega,On]
    rw [e1] at hh
    have m1:p.ax*den e0<e0.bx*den e0:=jiz Om de
    have m2:e0.bx*den e0<p.bx*den e0:=jiz Om de
    omega
   ·have hh:=hs.lev2 k1 d1 Om
    omega
 by_cases k1:p.ay=p.b_y
 ·have d1:decide (2*p.ay=2*p.b_y) =true:=decide_eq_true Om
  have d2:decide (p.ay=p.b_y) =true:=decide_eq_true k1
  rw [d1,d2,jix,jix,jiN,jig,decide_eq_true_iff]
  have mm:=main k1
  cases s with
  | true=>
   simp only [if_true,jig,decide_eq_true_eq]
   constructor
   ·rintro⟨a1,a2,a3⟩
    have:=mm Om
    exact Prod.ext (by show p.bx=v.1;omega) (by show p.b_y=v.2;omega)
   ·intro c
    have c1:p.bx=v.1:=congrArg Prod.fst c
    have c2:p.b_y=v.2:=congrArg Prod.snd c
    omega
  | false=>
   simp only [if_neg (show¬(false=true) by decide),jig,decide_eq_true_eq]
   constructor
   ·rintro⟨a1,a2,a3⟩
    have:=mm Om
    exact Prod.ext (by show p.ax=v.1;omega) (by show p.ay=v.2;omega)
   ·intro c
    have c1:p.ax=v.1:=congrArg Prod.fst c
    have c2:p.ay=v.2:=congrArg Prod.snd c
    omega
 ·have d1:decide (2*p.ay=2*p.b_y) =false:=decide_eq_false Om
  have d2:decide (p.ay=p.b_y) =false:=decide_eq_false k1
  rw [d1,d2]
  rfl
theorem Keys.lev_one {K E:List Leg} (h:Keys K E) {v:Pn} (s:Bool) {p q:Leg} (hp:p∈K) (hq:q∈K) (lp:p.ay=p.b_y) (lq:q.ay=q.b_y) (ep: (if s=true then lB p else lA p) =v) (eq: (if s=true then lB q else lA q) =v) :q=p:=by
 refine Decidable.byContradiction fun hne=> ?_
 have hs:= (h.sepl q hq p hp hne).lev2 lp lq
 have op:p.ay<p.b_y∨(p.ay=p.b_y∧p.ax<p.bx) :=h.ord p hp
 have oq:q.ay<q.b_y∨(q.ay=q.b_y∧q.ax<q.bx) :=h.ord q hq
 have e2:=ep.trans eq.symm
 cases s with
 | true=>
  simp only [if_true,lB,Prod.mk.injEq] at e2
  have:=hs Om
  omega
 | false=>
  simp only [if_neg (show¬(false=true) by decide),lA,Prod.mk.injEq] at e2
  have:=hs Om
  omega
theorem Hz {K:List Leg} (hn:K.Nodup) (q:Leg→Bool) (F:Leg→Int) (hq:∀a∈K,∀b∈K,q a=true→q b=true→b=a) :
  (∃p∈K,q p=true∧sm (fun e=>F e*ix (q e)) K=F p)∨((∀p∈K,q p=false)∧sm (fun e=>F e*ix (q e)) K=0) :=by
 by_cases h:∃p∈K,q p=true
 ·obtain ⟨p,hp,hqp⟩ :=h
  refine .inl ⟨p,hp,hqp,?_⟩
  rw [←OY hn hp F]
  refine JW fun e he=> ?_
  by_cases hpe:p=e
  ·rw [if_pos hpe,←hpe,hqp];simp [ix]
  ·rw [if_neg hpe]
   cases k:q e with
   | false=>simp [ix]
   | true=>exact absurd (hq p hp e he hqp k).symm hpe
 ·have hall:∀p∈K,q p=false:=fun p hp=>by
   cases k:q p with
   | false=>rfl
   | true=>exact absurd ⟨p,hp,k⟩ h
  refine .inr ⟨hall,?_⟩
  rw [←WU K]
  refine JW fun e he=> ?_
  rw [hall e he]
  simp [ix]
def cB (E F:List Leg) (how:Int) (p:Leg) :Int:=ix (Qy (kX E p).left (kX F p).left how) - ix (Qy (kX E p).right (kX F p).right how)
def gW (how a b:Int) :Int:=ix (Qy a b how)
theorem Sx {K E F:List Leg} {how:Int} (hE:Keys K E) (hF:Keys K F) {v:Pn} {e0:Leg} (h0:e0∈K) (hv:lA e0=v∨lB e0=v) (s:Bool) :
  sm (fun p=>cB E F how p*ix (decide (p.ay=p.b_y) &&decide ((if s=true then lB p else lA p) =v))) K
   =gW how (IZ (K.map tw) (Qe (E.map tw)) (2*v.1) (2*v.2) (2*v.2) s) (IZ (K.map tw) (Qe (F.map tw)) (2*v.1) (2*v.2) (2*v.2) s)
    - gW how (IZ (K.map tw) (Qe (E.map tw)) (2*v.1) (2*v.2) (2*v.2- 1) s) (IZ (K.map tw) (Qe (F.map tw)) (2*v.1) (2*v.2) (2*v.2- 1) s) :=by
 have c1:=hE.cover h0 hv s
 have c2:=hF.cover h0 hv s
 have one:∀a∈K,∀b∈K,(decide (a.ay=a.b_y) &&decide ((if s=true then lB a else lA a) =v)) =true→(decide (b.ay=b.b_y) &&decide ((if s=true then lB b else lA b) =v)) =true→b=a:=fun a ha b hb qa qb=>by
  rw [jig,decide_eq_true_iff,decide_eq_true_iff] at qa qb
  exact hE.lev_one s ha hb qa.1 qb.1 qa.2 qb.2
 rcases Hz hE.nd (fun p=>decide (p.ay=p.b_y) &&decide ((if s=true then lB p else lA p) =v)) (cB E F how) one with⟨p,hp,hq,e⟩ |⟨hall,e⟩
 ·rw [e]
  have n1:Qe E p=sm (fun p=>Qe E p*ix (decide (p.ay=p.b_y) &&decide ((if s=true then lB p else lA p) =v))) K:=by
   rcases Hz hE.nd (fun p=>decide (p.ay=p.b_y) &&decide ((if s=true then lB p else lA p) =v)) (Qe E) one with⟨p',hp',hq',e'⟩ |⟨hall,_⟩
   ·rw [e',one p hp p' hp' hq hq']
   ·rw [hall p hp] at hq;cases hq
  have n2:Qe F p=sm (fun p=>Qe F p*ix (decide (p.ay=p.b_y) &&decide ((if s=true then lB p else lA p) =v))) K:=by
   rcases Hz hE.nd (fun p=>decide (p.ay=p.b_y) &&decide ((if s=true then lB p else lA p) =v)) (Qe F) one with⟨p',hp',hq',e'⟩ |⟨hall,_⟩
   ·rw [e',one p hp p' hp' hq hq']
   ·rw [hall p hp] at hq;cases hq
  rw [←n1] at c1
  rw [←n2] at c2
  rw [jig,decide_eq_true_iff,decide_eq_true_iff] at hq
  obtain ⟨hl,hpv⟩ :=hq
  have hy:p.ay=v.2:=by
   cases s with
   | true=>simp only [if_true] at hpv;have:p.b_y=v.2:=congrArg Prod.snd hpv;omega
   | false=>simp only [if_neg (show¬(false=true) by decide)] at hpv;exact congrArg Prod.snd hpv
  have hX:2*v.1=if s=true then 2*p.bx else 2*p.ax:=by
   cases s with
   | true=>simp only [if_true] at hpv⊢;have:p.bx=v.1:=congrArg Prod.fst hpv;omega
   | false=>simp only [if_neg (show¬(false=true) by decide)] at hpv⊢;have:p.ax=v.1:=congrArg Prod.fst hpv;omega
  have o1:=hE.lev_out hp hl s hX
  have o2:=hF.lev_out hp hl s hX
  rw [hy] at o1 o2
  unfold cB gW kX
  rw [if_pos hl,if_pos hl]
  show ix (Qy (wy E p) (wy F p) how) - ix (Qy (wy E p- Qe E p) (wy F p- Qe F p) how) =_
  rw [o1,o2] at*
  rw [show IZ (K.map tw) (Qe (E.map tw)) (2*v.1) (2*v.2) (2*v.2) s- Qe E p=IZ (K.map tw) (Qe (E.map tw)) (2*v.1) (2*v.2) (2*v.2- 1) s by omega,
   show IZ (K.map tw) (Qe (F.map tw)) (2*v.1) (2*v.2) (2*v.2) s- Qe F p=IZ (K.map tw) (Qe (F.map tw)) (2*v.1) (2*v.2) (2*v.2- 1) s by omega]
 ·rw [e]
  have z:∀f:Leg→Int,sm (fun p=>f p*ix (decide (p.ay=p.b_y) &&decide ((if s=true then lB p else lA p) =v))) K=0:=fun f=>by
   rw [←WU K]
   refine JW fun p hp=> ?_
   rw [show(decide (p.ay=p.b_y) &&decide ((if s=true then lB p else lA p) =v)) =false from hall p hp]
   simp [ix]
  rw [z] at c1 c2
  rw [show IZ (K.map tw) (Qe (E.map tw)) (2*v.1) (2*v.2) (2*v.2) s=IZ (K.map tw) (Qe (E.map tw)) (2*v.1) (2*v.2) (2*v.2- 1) s by omega,
   show IZ (K.map tw) (Qe (F.map tw)) (2*v.1) (2*v.2) (2*v.2) s=IZ (K.map tw) (Qe (F.map tw)) (2*v.1) (2*v.2) (2*v.2- 1) s by omega]
  omega
def Ut (v p:Pn) :Int:=ix (decide (p=v))
theorem Keys.cB_dg {K E F:List Leg} {how:Int} (hE:Keys K E) (hF:Keys K F) {p:Leg} (hp:p∈K) {W:Int} (ha:va (tw p) W=true) :
  cB E F how p=dg (gW how) (K.map tw) (Qe (E.map tw)) (Qe (F.map tw)) W (tw p) :=by
 have ha2:=qX.1 ha
 have e1: (tw p).ay=2*p.ay:=rfl
 have e2: (tw p).b_y=2*p.b_y:=rfl
 have hl:p.ay<p.b_y:=by omega
 have hmid:va (tw p) (KU p) =true:=qX.2 (by unfold KU;omega)
 unfold cB dg gW kX
 rw [if_neg Om,if_neg Om]
 show ix (Qy (wy E p+Qe E p) (wy F p+Qe F p) how) - ix (Qy (wy E p) (wy F p) how) =_
 rw [hE.out hp hl,hF.out hp hl,HH,HH,YH hE.net (Zo hp) ha hmid,YH hF.net (Zo hp) ha hmid]
theorem xf {K E F:List Leg} {how:Int} (hE:Keys K E) (hF:Keys K F) (v:Pn) :sm (fun l=>Ut v (lA l) - Ut v (lB l)) (Kw K E F how) =0:=by
 unfold Kw
 rw [X8]
 have e1:sm (fun p=>sm (fun l=>Ut v (lA l) - Ut v (lB l)) (zk p (Qy (kX E p).left (kX F p).left how) (Qy (kX E p).right (kX F p).right how))) K=sm (fun p=>cB E F how p* (Ut v (lA p) - Ut v (lB p))) K:=by
  refine JW fun p _=> ?_
  rw [Mq p _ _ _ (by show Ut v (lB p) - Ut v (lA p) =_;omega)]
  rfl
 rw [e1]
 by_cases hex:∃e0∈K,lA e0=v∨lB e0=v
 ·obtain ⟨e0,h0,hv⟩ :=hex
  have hv': ((tw e0).ax=2*v.1∧(tw e0).ay=2*v.2)∨((tw e0).bx=2*v.1∧(tw e0).b_y=2*v.2) :=by
   rcases hv with k | k
   ·have k1:e0.ax=v.1:=congrArg Prod.fst k
    have k2:e0.ay=v.2:=congrArg Prod.snd k
    exact .inl ⟨by show 2*e0.ax=_;omega,by show 2*e0.ay=_;omega⟩
   ·have k1:e0.bx=v.1:=congrArg Prod.fst k
    have k2:e0.b_y=v.2:=congrArg Prod.snd k
    exact .inr ⟨by show 2*e0.bx=_;omega,by show 2*e0.b_y=_;omega⟩
  have t1:=TA hE.net hF.net (gW how) (2*v.1) (Y:=2*v.2) (W:=2*v.2) (jj8 _) (fun e _ ha=>by have:=qX.1 ha;omega)
  have t2:=TA hE.net hF.net (gW how) (2*v.1) (Y:=2*v.2) (W:=2*v.2- 1) Om (fun e _ ha=>by have:=qX.1 ha;omega)
  have l1:=Sx (how:=how) hE hF h0 hv false
  have l2:=Sx (how:=how) hE hF h0 hv true
  rw [VZ] at t1 t2
  have parts:sm (fun p=>cB E F how p* (Ut v (lA p) - Ut v (lB p))) K
    =sm (fun p=>dg (gW how) (K.map tw) (Qe (E.map tw)) (Qe (F.map tw)) (2*v.2) (tw p) *ix (va (tw p) (2*v.2) &&decide (2*v.1*den (tw p) =num (tw p) (2*v.2)))) K
    - sm (fun p=>dg (gW how) (K.map tw) (Qe (E.map tw)) (Qe (F.map tw)) (2*v.2- 1) (tw p) *ix (va (tw p) (2*v.2- 1) &&decide (2*v.1*den (tw p) =num (tw p) (2*v.2)))) K
    +sm (fun p=>cB E F how p*ix (decide (p.ay=p.b_y) &&decide ((if false=true then lB p else lA p) =v))) K
    - sm (fun p=>cB E F how p*ix (decide (p.ay=p.b_y) &&decide ((if true=true then lB p else lA p) =v))) K:=by
   rw [←yu,←xM,←yu]
   refine JW fun p hp=> ?_
   have ho:p.ay<p.b_y∨(p.ay=p.b_y∧p.ax<p.bx) :=hE.ord p hp
   have q1: (tw p).ay=2*p.ay:=rfl
   have q2: (tw p).b_y=2*p.b_y:=rfl
   have q3: (tw p).ax=2*p.ax:=rfl
   have q4: (tw p).bx=2*p.bx:=rfl
   have a1:dg (gW how) (K.map tw) (Qe (E.map tw)) (Qe (F.map tw)) (2*v.2) (tw p) *ix (va (tw p) (2*v.2) &&decide (2*v.1*den (tw p) =num (tw p) (2*v.2))) =cB E F how p*ix (va (tw p) (2*v.2) &&decide (2*v.1*den (tw p) =num (tw p) (2*v.2))) :=
    Ni fun h=>by rw [jig] at h;exact(hE.cB_dg hF hp h.1).symm
   have a2:dg (gW how) (K.map tw) (Qe (E.map tw)) (Qe (F.map tw)) (2*v.2- 1) (tw p) *ix (va (tw p) (2*v.2- 1) &&decide (2*v.1*den (tw p) =num (tw p) (2*v.2))) =cB E F how p*ix (va (tw p) (2*v.2- 1) &&decide (2*v.1*den (tw p) =num (tw p) (2*v.2))) :=
    Ni fun h=>by rw [jig] at h;exact(hE.cB_dg hF hp h.1).symm
   rw [a1,a2]
   have kA:Ut v (lA p) =ix (va (tw p) (2*v.2) &&decide (2*v.1*den (tw p) =num (tw p) (2*v.2))) +ix (decide (p.ay=p.b_y) &&decide ((if false=true then lB p else lA p) =v)) :=by
    rw [if_neg Dc]
    rcases ho with hlt |⟨heq,_⟩
    ·have de:0<den (tw p) :=by unfold den;omega
     have d0:decide (p.ay=p.b_y) =false:=decide_eq_false Om
     rw [d0,jiC]
     have:decide (lA p=v) = (va (tw p) (2*v.2) &&decide (2*v.1*den (tw p) =num (tw p) (2*v.2))) :=by
      rw [jiN,jig,decide_eq_true_iff,decide_eq_true_iff,qX]
      constructor
      ·intro k
       have k1:p.ax=v.1:=congrArg Prod.fst k
       have k2:p.ay=v.2:=congrArg Prod.snd k
       refine⟨by omega,?_⟩
       rw [show(2*v.2:Int) = (tw p).ay by omega,Ol,show(2*v.1:Int) = (tw p).ax by omega]
      ·rintro⟨⟨k1,k2⟩,k3⟩
       have k4: (tw p).ay=2*v.2:=by
        rcases jjS k1 with c | c
        ·exact(Vh hE.net (Zo h0) hv' (Zo hp) c k2 k3.symm).elim
        ·exact c
       rw [←k4,Ol] at k3
       have:=Int.eq_of_mul_eq_mul_right (Int.ne_of_gt de) k3
       exact Prod.ext (by show p.ax=v.1;omega) (by show p.ay=v.2;omega)
     unfold Ut
     rw [this]
     exact(jj0 _).symm
    ·have d0:decide (p.ay=p.b_y) =true:=decide_eq_true heq
     have d1:va (tw p) (2*v.2) =false:=by
      cases c:va (tw p) (2*v.2) with
      | false=>rfl
      | true=> (have:=qX.1 c;omega)
     rw [d0,d1,jix,jiC]
     exact(Int.zero_add _).symm
   have kB:Ut v (lB p) =ix (va (tw p) (2*v.2- 1) &&decide (2*v.1*den (tw p) =num (tw p) (2*v.2))) +ix (decide (p.ay=p.b_y) &&decide ((if true=true then lB p else lA p) =v)) :=by
    rw [if_pos rfl]
    rcases ho with hlt |⟨heq,_⟩
    ·have de:0<den (tw p) :=by unfold den;omega
     have d0:decide (p.ay=p.b_y) =false:=decide_eq_false Om
     rw [d0,jiC]
     have:decide (lB p=v) = (va (tw p) (2*v.2- 1) &&decide (2*v.1*den (tw p) =num (tw p) (2*v.2))) :=by
      rw [jiN,jig,decide_eq_true_iff,decide_eq_true_iff,qX]
      constructor
      ·intro k
       have k1:p.bx=v.1:=congrArg Prod.fst k
       have k2:p.b_y=v.2:=congrArg Prod.snd k
       refine⟨by omega,?_⟩
       rw [show(2*v.2:Int) = (tw p).b_y by omega,On,show(2*v.1:Int) = (tw p).bx by omega]
      ·rintro⟨⟨k1,k2⟩,k3⟩
       have k4: (tw p).b_y=2*v.2:=by
        rcases Int.lt_or_le (2*v.2) (tw p).b_y with c | c
        ·exact(Vh hE.net (Zo h0) hv' (Zo hp) Om c k3.symm).elim
        ·omega
       rw [←k4,On] at k3
       have:=Int.eq_of_mul_eq_mul_right (Int.ne_of_gt de) k3
       exact Prod.ext (by show p.bx=v.1;omega) (by show p.b_y=v.2;omega)
     unfold Ut
     rw [this]
     exact(jj0 _).symm
    ·have d0:decide (p.ay=p.b_y) =true:=decide_eq_true heq
     have d1:va (tw p) (2*v.2- 1) =false:=by
      cases c:va (tw p) (2*v.2- 1) with
      | false=>rfl
      | true=> (have:=qX.1 c;omega)
     rw [d0,d1,jix,jiC]
     exact(Int.zero_add _).symm
   rw [kA,kB]
   generalize ix (va (tw p) (2*v.2) &&decide (2*v.1*den (tw p) =num (tw p) (2*v.2))) =z1
   generalize ix (va (tw p) (2*v.2- 1) &&decide (2*v.1*den (tw p) =num (tw p) (2*v.2))) =z2
   generalize ix (decide (p.ay=p.b_y) &&decide ((if false=true then lB p else lA p) =v)) =z3
   generalize ix (decide (p.ay=p.b_y) &&decide ((if true=true then lB p else lA p) =v)) =z4
   generalize cB E F how p=c
   grind
  rw [parts,t1,t2,l1,l2]
  unfold IZ
  omega
 ·rw [←WU K]
  refine JW fun p hp=> ?_
  have n1:lA p≠v:=fun k=>hex ⟨p,hp, .inl k⟩
  have n2:lB p≠v:=fun k=>hex ⟨p,hp, .inr k⟩
  unfold Ut
  rw [decide_eq_false n1,decide_eq_false n2]
  simp
structure Meets (e p:Leg) :Prop where
 no:qf (lA e) (lB e) (lA p) (lB p)≠true
 e1:∀q,(q=lA e∨q=lB e)→uO (lA p) (lB p) q=true→q=lA p∨q=lB p
 e2:∀q,(q=lA p∨q=lB p)→uO (lA e) (lB e) q=true→q=lA e∨q=lB e
theorem tnA (p:Leg) (q:Pn) :tn (lA p) (lB p) q=num p q.2- q.1*den p:=by
 show Q8 p.ax p.ay p.bx p.b_y q.1 q.2=_
 exact C1 p q.1 q.2
theorem Hc {p:Leg} {x Y:Int} (hp:0<den p) (h1:p.ay≤Y) (h2:Y≤p.b_y) (h:num p Y=x*den p) :uO (lA p) (lB p) (x,Y) =true:=by
 have ht:=tnA p (x,Y)
 simp only at ht
 unfold uO DT
 have e0:Q8 (lA p).1 (lA p).2 (lB p).1 (lB p).2 x Y=0:=by
  have:Q8 (lA p).1 (lA p).2 (lB p).1 (lB p).2 x Y=tn (lA p) (lB p) (x,Y) :=rfl
  rw [this,ht,h];omega
 have hd:den p=p.b_y- p.ay:=rfl
 have hx:x*den p=p.ax*den p+ (p.bx- p.ax) * (Y- p.ay) :=by rw [←h];rfl
 have b1:min p.ax p.bx≤x:=by
  refine jjr.1 fun hlt=> ?_
  have k1: (x- p.ax) * (den p- (Y- p.ay)) + (x- p.bx) * (Y- p.ay) =0:=by
   have: (x- p.ax) * (den p- (Y- p.ay)) + (x- p.bx) * (Y- p.ay) =x*den p- (p.ax*den p+ (p.bx- p.ax) * (Y- p.ay)) :=by grind
   omega
  have m1:=jiF (show 0≤p.ax- x- 1 by omega) (show 0≤den p- (Y- p.ay) by omega)
  have m2:=jiF (show 0≤p.bx- x- 1 by omega) (show 0≤Y- p.ay by omega)
  have k2: (p.ax- x- 1) * (den p- (Y- p.ay)) + (p.bx- x- 1) * (Y- p.ay) = -((x- p.ax) * (den p- (Y- p.ay)) + (x- p.bx) * (Y- p.ay)) - den p:=by grind
  omega
 have b2:x≤max p.ax p.bx:=by
  refine jjr.1 fun hlt=> ?_
  have k1: (x- p.ax) * (den p- (Y- p.ay)) + (x- p.bx) * (Y- p.ay) =0:=by
   have: (x- p.ax) * (den p- (Y- p.ay)) + (x- p.bx) * (Y- p.ay) =x*den p- (p.ax*den p+ (p.bx- p.ax) * (Y- p.ay)) :=by grind
   omega
  have m1:=jiF (show 0≤x- p.ax- 1 by omega) (show 0≤den p- (Y- p.ay) by omega)
  have m2:=jiF (show 0≤x- p.bx- 1 by omega) (show 0≤Y- p.ay by omega)
  have k2: (x- p.ax- 1) * (den p- (Y- p.ay)) + (x- p.bx- 1) * (Y- p.ay) = ((x- p.ax) * (den p- (Y- p.ay)) + (x- p.bx) * (Y- p.ay)) - den p:=by grind
  omega
 rw [e0]
 have c1: (lA p).1=p.ax:=rfl
 have c2: (lA p).2=p.ay:=rfl
 have c3: (lB p).1=p.bx:=rfl
 have c4: (lB p).2=p.b_y:=rfl
 rw [c1,c2,c3,c4]
 simp only [jig,beq_iff_eq,decide_eq_true_eq]
 refine⟨⟨⟨⟨trivial,b1⟩,b2⟩,by omega⟩,by omega⟩
theorem xP {a b c d:Pn} (h: (0<tn a b c∧tn a b d<0)∨(tn a b c<0∧0<tn a b d)) (k: (0<tn c d a∧tn c d b<0)∨(tn c d a<0∧0<tn c d b)) :qf a b c d=true:=by
 have sp:∀x:Int,0<x→wt x=1:=fun x hx=>by unfold wt;rw [if_neg Om,if_pos hx]
 have sn:∀x:Int,x<0→wt x= -1:=fun x hx=>by unfold wt;rw [if_pos hx]
 unfold qf
 rw [jig,decide_eq_true_iff,decide_eq_true_iff]
 constructor
 ·rcases h with⟨h1,h2⟩ |⟨h1,h2⟩
  ·rw [sp _ h1,sn _ h2];decide
  ·rw [sn _ h1,sp _ h2];decide
 ·rcases k with⟨h1,h2⟩ |⟨h1,h2⟩
  ·rw [sp _ h1,sn _ h2];decide
  ·rw [sn _ h1,sp _ h2];decide
theorem yX {p:Leg} {x:Int} (hl:p.ay=p.b_y) (h1:p.ax≤x) (h2:x≤p.bx) :uO (lA p) (lB p) (x,p.ay) =true:=by
 unfold uO DT
 have c1: (lA p).1=p.ax:=rfl
 have c2: (lA p).2=p.ay:=rfl
 have c3: (lB p).1=p.bx:=rfl
 have c4: (lB p).2=p.b_y:=rfl
 have e0:Q8 (lA p).1 (lA p).2 (lB p).1 (lB p).2 x p.ay=0:=by
  rw [c1,c2,c3,c4];unfold Q8;rw [←hl];grind
 rw [e0,c1,c2,c3,c4]
 simp only [jig,beq_iff_eq,decide_eq_true_eq]
 refine⟨⟨⟨⟨trivial,by omega⟩,by omega⟩,by omega⟩,by omega⟩
theorem Of {e f:Leg} (h1:lA e=lA f) (h2:lB e=lB f) :e=f:=by
 rcases e with⟨a1,a2,a3,a4⟩
 rcases f with⟨b1,b2,b3,b4⟩
 simp only [lA,lB,Prod.mk.injEq] at h1 h2
 rw [h1.1,h1.2,h2.1,h2.2]
theorem jbE (e p:Leg) :Vc e p p.ay=den p* (num e p.ay- p.ax*den e) :=by unfold Vc;rw [Ol];grind
theorem jbF (e p:Leg) :Vc e p p.b_y=den p* (num e p.b_y- p.bx*den e) :=by unfold Vc;rw [On];grind
theorem uL {d x:Int} (hd:0<d) : (0<d*x↔0<x)∧(d*x<0↔x<0)∧(d*x=0↔x=0) :=by
 rcases ji1 x 0 with h | h | h
 ·have:=jjA hd h;omega
 ·rw [h,jjP];omega
 ·have:=jiU hd h;omega
theorem SA {c s Y Z c':Int} (h:c'=c+s* (Z- Y)) (hs:0≤s) (hle:Z≤Y) (hc:c<0) :c'<0:=by
 have:=jiF hs (show 0≤Y- Z by omega)
 have e:s* (Z- Y) = -(s* (Y- Z)) :=by grind
 omega
theorem SB {c s Y Z c':Int} (h:c'=c+s* (Z- Y)) (hs:0≤s) (hle:Y≤Z) (hc:0<c) :0<c':=by
 have:=jiF hs (show 0≤Z- Y by omega)
 omega
theorem RJ {e p:Leg} (de:0<den e) (dp:0<den p) {L U:Int} (hLU:L<U) (l1:e.ay≤L) (l2:p.ay≤L) (u1:U≤e.b_y) (u2:U≤p.b_y) (h1:Vc e p L<0) (h2:0<Vc e p U) :qf (lA e) (lB e) (lA p) (lB p) =true:=by
 have hs:0≤I6 e p:=by
  have l3:=Vu e p L U
  rcases Int.lt_or_le (I6 e p) 0 with h | h
  ·have:=jjh h (show 0<U- L by omega);omega
  ·exact h
 have k1:=SA (Vu e p L e.ay) hs l1 h1
 have k2:=SA (Vu e p L p.ay) hs l2 h1
 have k3:=SB (Vu e p U e.b_y) hs u1 h2
 have k4:=SB (Vu e p U p.b_y) hs u2 h2
 rw [PF,(uL de).2.1] at k1
 rw [jbE,(uL dp).2.1] at k2
 rw [jbD,(uL de).1] at k3
 rw [jbF,(uL dp).1] at k4
 refine xP (.inr ⟨?_,?_⟩) (.inl ⟨?_,?_⟩) <;>rw [tnA]
 ·exact k2
 ·exact k4
 ·show 0<num p e.ay- e.ax*den p;omega
 ·show num p e.b_y- e.bx*den p<0;omega
theorem Wx (a b c d:Pn) :qf c d a b=qf a b c d:=by unfold qf;rw [Bool.and_comm]
theorem Meets.symm {e p:Leg} (h:Meets e p) :Meets p e:=⟨by rw [Wx];exact h.no,h.e2,h.e1⟩
theorem jg4 {e p:Leg} (oe:vh (lA e) (lB e)) (op:vh (lA p) (lB p)) (hne:e≠p) (h:Meets e p) :SepE e p:=by
 have oe':e.ay<e.b_y∨(e.ay=e.b_y∧e.ax<e.bx) :=oe
 have op':p.ay<p.b_y∨(p.ay=p.b_y∧p.ax<p.bx) :=op
 have endA:0<den p→p.ay<e.ay→e.ay<p.b_y→e.ax*den p≠num p e.ay:=fun dp h1 h2 k=>by
  have:=h.e1 (e.ax,e.ay) (.inl rfl) (Hc dp Om Om k.symm)
  rcases this with c | c
  ·have:e.ay=p.ay:=congrArg Prod.snd c
   omega
  ·have:e.ay=p.b_y:=congrArg Prod.snd c
   omega
 have endB:0<den p→p.ay<e.b_y→e.b_y<p.b_y→e.bx*den p≠num p e.b_y:=fun dp h1 h2 k=>by
  have:=h.e1 (e.bx,e.b_y) (.inr rfl) (Hc dp Om Om k.symm)
  rcases this with c | c
  ·have:e.b_y=p.ay:=congrArg Prod.snd c
   omega
  ·have:e.b_y=p.b_y:=congrArg Prod.snd c
   omega
 refine⟨fun de dp hlt=> ?_,endA,endB,fun dp h0 h1 h2=> ?_⟩
 ·have hLa:e.ay≤W5 e p:=by unfold W5;omega
  have hLb:p.ay≤W5 e p:=by unfold W5;omega
  have hUa:um e p≤e.b_y:=by unfold um;omega
  have hUb:um e p≤p.b_y:=by unfold um;omega
  have hxe:den e=e.b_y- e.ay:=rfl
  have hxp:den p=p.b_y- p.ay:=rfl
  have no1:¬(Vc e p (W5 e p) <0∧0<Vc e p (um e p)) :=fun k=>h.no (RJ de dp hlt hLa hLb hUa hUb k.1 k.2)
  have no2:¬(0<Vc e p (W5 e p)∧Vc e p (um e p) <0) :=fun k=>by
   have:=RJ dp de hlt hLb hLa hUb hUa (by rw [Xj];omega) (by rw [Xj];omega)
   rw [Wx] at this
   exact h.no this
  have z1:Vc e p (W5 e p) =0→lA e=lA p:=fun k=>by
   rcases Int.le_total p.ay e.ay with c | c
   ·have eL:W5 e p=e.ay:=by unfold W5;omega
    rw [eL,PF,(uL de).2.2] at k
    have:=h.e1 (e.ax,e.ay) (.inl rfl) (Hc dp c Om Om)
    rcases this with q | q
    ·exact q
    ·have:e.ay=p.b_y:=congrArg Prod.snd q
     omega
   ·have eL:W5 e p=p.ay:=by unfold W5;omega
    rw [eL,jbE,(uL dp).2.2] at k
    have:=h.e2 (p.ax,p.ay) (.inl rfl) (Hc de c Om Om)
    rcases this with q | q
    ·exact q.symm
    ·have:p.ay=e.b_y:=congrArg Prod.snd q
     omega
  have z2:Vc e p (um e p) =0→lB e=lB p:=fun k=>by
   rcases Int.le_total e.b_y p.b_y with c | c
   ·have eL:um e p=e.b_y:=by unfold um;omega
    rw [eL,jbD,(uL de).2.2] at k
    have:=h.e1 (e.bx,e.b_y) (.inr rfl) (Hc dp Om c Om)
    rcases this with q | q
    ·have:e.b_y=p.ay:=congrArg Prod.snd q
     omega
    ·exact q
   ·have eL:um e p=p.b_y:=by unfold um;omega
    rw [eL,jbF,(uL dp).2.2] at k
    have:=h.e2 (p.bx,p.b_y) (.inr rfl) (Hc de Om c Om)
    rcases this with q | q
    ·have:p.b_y=e.ay:=congrArg Prod.snd q
     omega
    ·exact q.symm
  have z3:¬(Vc e p (W5 e p) =0∧Vc e p (um e p) =0) :=fun k=>hne (Of (z1 k.1) (z2 k.2))
  omega
 ·have a1:=endA dp h1 h2
  have a2:=endB dp Om Om
  rw [←h0] at a2
  rcases ji1 (e.ax*den p) (num p e.ay) with k1 | k1 | k1
  ·rcases ji1 (e.bx*den p) (num p e.ay) with k2 | k2 | k2
   ·exact .inr ⟨k1,k2⟩
   ·exact absurd k2 a2
   ·exfalso
    refine h.no (xP (.inr ⟨?_,?_⟩) (.inl ⟨?_,?_⟩))
    ·show Q8 e.ax e.ay e.bx e.b_y p.ax p.ay<0
     unfold Q8
     have:=jjA (show 0<e.bx- e.ax by omega) (show p.ay- e.ay<0 by omega)
     have e0: (e.b_y- e.ay) * (p.ax- e.ax) =0:=by rw [h0];grind
     omega
    ·show 0<Q8 e.ax e.ay e.bx e.b_y p.bx p.b_y
     unfold Q8
     have:=jiU (show 0<e.bx- e.ax by omega) (show 0<p.b_y- e.ay by omega)
     have e0: (e.b_y- e.ay) * (p.bx- e.ax) =0:=by rw [h0];grind
     omega
    ·rw [tnA];show 0<num p e.ay- e.ax*den p;omega
    ·rw [tnA];show num p e.b_y- e.bx*den p<0;rw [←h0];omega
  ·exact absurd k1 a1
  ·rcases ji1 (e.bx*den p) (num p e.ay) with k2 | k2 | k2
   ·exfalso
    have:=jiz (show e.ax<e.bx by omega) dp
    omega
   ·exact absurd k2 a2
   ·exact .inl ⟨k1,k2⟩
theorem jfp {e p:Leg} (oe:vh (lA e) (lB e)) (op:vh (lA p) (lB p)) (hne:e≠p) (h:Meets e p) :SepL e p:=by
 have oe':e.ay<e.b_y∨(e.ay=e.b_y∧e.ax<e.bx) :=oe
 have op':p.ay<p.b_y∨(p.ay=p.b_y∧p.ax<p.bx) :=op
 constructor
 ·intro hl de h1 h2
  refine Decidable.byContradiction fun hno=> ?_
  have n1:p.ax*den e<num e p.ay:=by omega
  have n2:num e p.ay<p.bx*den e:=by omega
  rcases jjS h1 with c1 | c1
  ·rcases jjS h2 with c2 | c2
   ·refine h.no (xP (.inl ⟨?_,?_⟩) (.inr ⟨?_,?_⟩))
    ·rw [tnA];show 0<num e p.ay- p.ax*den e;omega
    ·rw [tnA];show num e p.b_y- p.bx*den e<0;rw [←hl];omega
    ·show Q8 p.ax p.ay p.bx p.b_y e.ax e.ay<0
     unfold Q8
     have:=jjA (show 0<p.bx- p.ax by omega) (show e.ay- p.ay<0 by omega)
     have e0: (p.b_y- p.ay) * (e.ax- p.ax) =0:=by rw [hl];grind
     omega
    ·show 0<Q8 p.ax p.ay p.bx p.b_y e.bx e.b_y
     unfold Q8
     have:=jiU (show 0<p.bx- p.ax by omega) (show 0<e.b_y- p.ay by omega)
     have e0: (p.b_y- p.ay) * (e.bx- p.ax) =0:=by rw [hl];grind
     omega
   ·rw [c2,On] at n1 n2
    have m1:=jiP n1 (ji5 de)
    have m2:=jiP n2 (ji5 de)
    have:=h.e1 (e.bx,e.b_y) (.inr rfl) (by rw [←c2];exact yX hl Om Om)
    rcases this with q | q
    ·have:e.bx=p.ax:=congrArg Prod.fst q
     omega
    ·have:e.bx=p.bx:=congrArg Prod.fst q
     omega
  ·rw [←c1,Ol] at n1 n2
   have m1:=jiP n1 (ji5 de)
   have m2:=jiP n2 (ji5 de)
   have:=h.e1 (e.ax,e.ay) (.inl rfl) (by rw [c1];exact yX hl Om Om)
   rcases this with q | q
   ·have:e.ax=p.ax:=congrArg Prod.fst q
    omega
   ·have:e.ax=p.bx:=congrArg Prod.fst q
    omega
 ·intro hl he hy
  refine Decidable.byContradiction fun hno=> ?_
  have a:lA e=lA p:=by
   rcases Int.le_total p.ax e.ax with c | c
   ·have:=h.e1 (e.ax,e.ay) (.inl rfl) (by rw [hy];exact yX hl c Om)
    rcases this with q | q
    ·exact q
    ·have:e.ax=p.bx:=congrArg Prod.fst q
     omega
   ·have:=h.e2 (p.ax,p.ay) (.inl rfl) (by rw [←hy];exact yX he c Om)
    rcases this with q | q
    ·exact q.symm
    ·have:p.ax=e.bx:=congrArg Prod.fst q
     omega
  have b:lB e=lB p:=by
   rcases Int.le_total e.bx p.bx with c | c
   ·have:=h.e1 (e.bx,e.b_y) (.inr rfl) (by rw [←he,hy];exact yX hl Om c)
    rcases this with q | q
    ·have:e.bx=p.ax:=congrArg Prod.fst q
     omega
    ·exact q
   ·have:=h.e2 (p.bx,p.b_y) (.inr rfl) (by rw [←hl,←hy];exact yX he Om c)
    rcases this with q | q
    ·have:p.bx=e.ax:=congrArg Prod.fst q
     omega
    ·exact q.symm
  exact hne (Of a b)
theorem CY {α:Type} [DecidableEq α] (lt:α→α→Bool) (N M X:α→Int) (g:Int→Int→Int) (hg:∀a b,0≤g a b) (h0:g 0 0=0) :∀(n:Nat) (R:List α) (x0:Int),R.length=n→R.Nodup→
  (∀a∈R,∀b∈R,a≠b→lt a b=true∨lt b a=true)→(∀a∈R,∀b∈R,∀c∈R,lt a b=true→lt b c=true→lt a c=true)→(∀a∈R,lt a a=false)→
  (∀a∈R,∀b∈R,lt a b=true→X a≤X b)→(∀a∈R,x0≤X a)→
  g (sm N R) (sm M R) *x0≤sm (fun p=> (g (vX lt N R p+N p) (vX lt M R p+M p) - g (vX lt N R p) (vX lt M R p)) *X p) R
 | 0,R,x0,hl,_,_,_,_,_,_=>by
  obtain rfl:=List.length_eq_zero_iff.1 hl
  simp only [sm,h0,ji7]
  exact jj8 _
 | n+1,R,x0,hl,hn,ht,hr,hi,hX,hx0=>by
  obtain ⟨m,hm,hmin⟩ :=Nx (fun a b=>lt a b=true) R (by intro h;rw [h] at hl;simp at hl) ht hr
  have hp:R.Perm (m::R.erase m) :=List.perm_cons_erase hm
  have hsub:∀x∈R.erase m,x∈R:=fun x hx=>List.mem_of_mem_erase hx
  have hnm:∀x∈R.erase m,x≠m:=fun x hx e=>by
   rw [e] at hx
   exact(List.Nodup.not_mem_erase hn) hx
  have hasym:∀x∈R.erase m,lt x m=false:=fun x hx=>by
   cases h:lt x m with
   | false=>rfl
   | true=>
    have:=hr m hm x (hsub x hx) m hm (hmin x (hsub x hx) (hnm x hx)) h
    rw [hi m hm] at this
    cases this
  have key:∀(N:α→Int) (p:α),vX lt N R p= (if lt p m=true then N m else 0) +vX lt N (R.erase m) p:=fun N p=>by
   unfold vX
   rw [wj _ hp]
   rfl
  have k1:∀(N:α→Int),vX lt N R m=sm N (R.erase m) :=fun N=>by
   rw [key,hi m hm]
   have:vX lt N (R.erase m) m=sm N (R.erase m) :=JW fun x hx=>if_pos (hmin x (hsub x hx) (hnm x hx))
   rw [this]
   simp
  have k2:∀(N:α→Int),∀p∈R.erase m,vX lt N R p=vX lt N (R.erase m) p:=fun N p hx=>by
   rw [key,hasym p hx]
   simp
  have ih:=CY lt N M X g hg h0 n (R.erase m) (X m) (by rw [List.length_erase_of_mem hm,hl];rfl) (hn.erase m) (fun a ha b hb=>ht a (hsub a ha) b (hsub b hb)) (fun a ha b hb c hc=>hr a (hsub a ha) b (hsub b hb) c (hsub c hc)) (fun a ha=>hi a (hsub a ha)) (fun a ha b hb=>hX a (hsub a ha) b (hsub b hb)) (fun a ha=>hX m hm a (hsub a ha) (hmin a (hsub a ha) (hnm a ha)))
  rw [wj N hp,wj M hp,wj (fun p=> (g (vX lt N R p+N p) (vX lt M R p+M p) - g (vX lt N R p) (vX lt M R p)) *X p) hp]
  simp only [sm]
  rw [JW (l:=R.erase m) (f:=fun p=> (g (vX lt N R p+N p) (vX lt M R p+M p) - g (vX lt N R p) (vX lt M R p)) *X p) (g:=fun p=> (g (vX lt N (R.erase m) p+N p) (vX lt M (R.erase m) p+M p) - g (vX lt N (R.erase m) p) (vX lt M (R.erase m) p)) *X p) (fun p hx=>by rw [k2 N p hx,k2 M p hx]),k1 N,k1 M]
  rw [Int.add_comm (sm N (R.erase m)) (N m),Int.add_comm (sm M (R.erase m)) (M m)]
  have e1: (g (N m+sm N (R.erase m)) (M m+sm M (R.erase m)) - g (sm N (R.erase m)) (sm M (R.erase m))) *X m=g (N m+sm N (R.erase m)) (M m+sm M (R.erase m)) *X m- g (sm N (R.erase m)) (sm M (R.erase m)) *X m:=by grind
  have e2:g (N m+sm N (R.erase m)) (M m+sm M (R.erase m)) *x0≤g (N m+sm N (R.erase m)) (M m+sm M (R.erase m)) *X m:=jiT (hx0 m hm) (hg _ _)
  omega
theorem jcc {α:Type} (X:α→Int) :∀R:List α,∃x0,∀a∈R,x0≤X a
 | [] =>⟨0,fun _ h=>by cases h⟩
 | a::l=>by
  obtain ⟨x0,h⟩ :=jcc X l
  refine⟨min x0 (X a),fun b hb=> ?_⟩
  rcases jir.1 hb with k | k
  ·rw [k];omega
  ·have:=h b k;omega
theorem Nr {K:List Leg} {N M:Leg→Int} {Y:Int} (hN:Net K N) (hM:Net K M) (g:Int→Int→Int) (hg:∀a b,0≤g a b) (h0:g 0 0=0) (X:Leg→Int) (hX:∀e∈K,∀p∈K,va e Y=true→va p Y=true→num p Y*den e≤num e Y*den p→X p≤X e) :
  0≤sm (fun p=>dg g K N M Y p*ix (va p Y) *X p) K:=by
 have hu:UpR K (K.filter fun e=>va e Y) Y:=⟨fun e he=>ji6.1 he,hN.nd.filter _,fun p _ e he ha _=>ji6.2 ⟨he,ha⟩⟩
 have hz:∀ {N:Leg→Int},Net K N→sm N (K.filter fun e=>va e Y) =0:=fun {N} h=>by
  rw [←uy,←h.close (fun _ y=>ix (decide (y≤Y)))]
  refine JW fun e he=> ?_
  have:=jfW (h.ord e he)
  congr 1
  unfold va ix
  by_cases a:e.ay≤Y
  ·rw [decide_eq_true a,jix]
   by_cases b:e.b_y≤Y
   ·rw [decide_eq_true b,decide_eq_false (show¬Y<e.b_y by omega)];rfl
   ·rw [decide_eq_false b,decide_eq_true (show Y<e.b_y by omega)];rfl
  ·rw [decide_eq_false a,decide_eq_false (show¬e.b_y≤Y by omega)];rfl
 have hd:∀e∈K.filter (fun e=>va e Y),0<den e:=fun e he=>by have:=qX.1 (hu.sub e he).2;unfold den;omega
 have hs:∀a∈K.filter (fun e=>va e Y),∀b∈K.filter (fun e=>va e Y),a≠b→SepE a b:=fun a ha b hb hn=>hN.sep a (hu.sub a ha).1 b (hu.sub b hb).1 hn
 obtain ⟨x0,hx0⟩ :=jcc X (K.filter fun e=>va e Y)
 have ht:=CY (fun p e=>Z6 e p) N M X g hg h0 (K.filter fun e=>va e Y).length (K.filter fun e=>va e Y) x0 rfl hu.nd
  (fun a ha b hb hn=> (jc7 (hs b hb a ha (Ne.symm hn)) (hu.sub b hb).2 (hu.sub a ha).2))
  (fun a ha b hb c hc h1 h2=>by
   by_cases hab:b=a
   ·subst hab;exact h2
   ·by_cases hbc:c=b
    ·subst hbc;exact h1
    ·have r1:= (uY (hs b hb a ha hab) (hu.sub b hb).2 (hu.sub a ha).2).1 h1
     have r2:= (uY (hs c hc b hb hbc) (hu.sub c hc).2 (hu.sub b hb).2).1 h2
     have r3:=Hq (hd c hc) (hd b hb) (hd a ha) r2 r1
     by_cases hac:c=a
     ·subst hac
      exfalso
      have z1:Vc c c Y=0:=by unfold Vc;omega
      have z2:I6 c c=0:=by unfold I6;omega
      unfold rgY at r3
      omega
     ·exact(uY (hs c hc a ha hac) (hu.sub c hc).2 (hu.sub a ha).2).2 r3)
  (fun a _=>Hr a)
  (fun a ha b hb h1=>by
   by_cases hab:b=a
   ·rw [hab];exact jj8 _
   ·have r1:= (uY (hs b hb a ha hab) (hu.sub b hb).2 (hu.sub a ha).2).1 h1
    refine hX b (hu.sub b hb).1 a (hu.sub a ha).1 (hu.sub b hb).2 (hu.sub a ha).2 ?_
    have:0≤Vc b a Y:=by unfold rgY at r1;omega
    unfold Vc at this
    omega) hx0
 rw [hz hN,hz hM,h0,ji7,Ln] at ht
 refine jjC ht (jjX ?_)
 refine JW fun p hp=> ?_
 by_cases ha:va p Y=true
 ·have hm:p∈K.filter (fun e=>va e Y) :=ji6.2 ⟨hp,ha⟩
  rw [if_pos ha,X2 hN hu hm,X2 hM hu hm,ha]
  unfold dg ix
  simp
 ·have:va p Y=false:=by simpa using ha
  rw [if_neg ha,this]
  simp [ix]
def WP:List Leg→Int
 | [] =>1
 | e::l=> (if 0<den e then den e else 1) *WP l
theorem Hi:∀l:List Leg,0<WP l
 | [] =>by decide
 | e::l=>by
  unfold WP
  refine jiU ?_ (Hi l)
  split
  ·assumption
  ·decide
theorem ZJ:∀ {l:List Leg} {e:Leg},e∈l→0<den e→∃c,WP l=den e*c
 | [],_,h,_=>by cases h
 | a::l,e,h,hd=>by
  rcases jir.1 h with k | k
  ·subst k
   exact⟨WP l,by show(if 0<den e then den e else 1) *WP l=_;rw [if_pos hd]⟩
  ·obtain ⟨c,hc⟩ :=ZJ k hd
   exact⟨(if 0<den a then den a else 1) *c,by show(if 0<den a then den a else 1) *WP l=_;rw [hc];grind⟩
def xOf (D:Int) (Y:Int) (e:Leg) :Int:=num e Y* (D/den e)
theorem jhh {K:List Leg} {e p:Leg} {Y:Int} (he:e∈K) (hp:p∈K) (de:0<den e) (dp:0<den p) (h:num p Y*den e≤num e Y*den p) :xOf (WP K) Y p≤xOf (WP K) Y e:=by
 obtain ⟨c,hc⟩ :=ZJ he de
 obtain ⟨d,hd⟩ :=ZJ hp dp
 have hD:=Hi K
 have e1:WP K/den e=c:=by rw [hc];exact Int.mul_ediv_cancel_left _ (Int.ne_of_gt de)
 have e2:WP K/den p=d:=by rw [hd];exact Int.mul_ediv_cancel_left _ (Int.ne_of_gt dp)
 unfold xOf
 rw [e1,e2]
 have c0:0<c:=VX de (by rw [jiV];omega)
 have d0:0<d:=VX dp (by rw [jiV];omega)
 have hcd:den e*c=den p*d:=by rw [←hc,hd]
 have h1:=jij h (show 0≤c*d from ji5 (jiU c0 d0))
 have h2:num p Y*den e* (c*d) =num p Y*d* (den e*c) :=by grind
 have h3:num e Y*den p* (c*d) =num e Y*c* (den p*d) :=by grind
 rw [h2,h3,←hcd] at h1
 exact jiS h1 (by rw [←hc];exact hD)
theorem IC {α β:Type} (f:α→β→Int) :∀(l:List α) (m:List β),sm (fun a=>sm (fun b=>f a b) m) l=sm (fun b=>sm (fun a=>f a b) l) m
 | [],m=>by simp only [sm];exact(WU m).symm
 | a::l,m=>by
  simp only [sm]
  rw [IC f l m,xM]
theorem IB {α:Type} {f:α→Int} :∀ {l:List α},(∀x∈l,0≤f x)→0≤sm f l
 | [],_=>jj8 _
 | x::l,h=>by
  have h1:=h x (by simp)
  have h2:=IB (l:=l) fun y hy=>h y (jiq _ hy)
  simp only [sm]
  omega
theorem PI:∀B:List Leg,∃V:List Pn,V.Nodup∧∀l∈B,lA l∈V∧lB l∈V
 | [] =>⟨[],List.nodup_nil,fun _ h=>by cases h⟩
 | b::B=>by
  obtain ⟨V,hn,h⟩ :=PI B
  have ins:∀(V:List Pn) (p:Pn),V.Nodup→∃W:List Pn,W.Nodup∧p∈W∧∀x∈V,x∈W:=fun V p hV=>by
   by_cases hp:p∈V
   ·exact⟨V,hV,hp,fun x hx=>hx⟩
   ·exact⟨p::V,jjF.2 ⟨hp,hV⟩,by simp,fun x hx=>jiq _ hx⟩
  obtain ⟨V1,n1,m1,s1⟩ :=ins V (lA b) hn
  obtain ⟨V2,n2,m2,s2⟩ :=ins V1 (lB b) n1
  refine⟨V2,n2,fun l hl=> ?_⟩
  rcases jir.1 hl with k | k
  ·rw [k];exact⟨s2 _ m1,m2⟩
  ·exact⟨s2 _ (s1 _ (h l k).1),s2 _ (s1 _ (h l k).2)⟩
theorem MN {B:List Leg} (hc:∀v,sm (fun l=>Ut v (lA l) - Ut v (lB l)) B=0) (f:Pn→Int) :sm (fun l=>f (lA l) - f (lB l)) B=0:=by
 obtain ⟨V,hn,hV⟩ :=PI B
 have hf:∀p∈V,f p=sm (fun v=>f v*Ut v p) V:=fun p hp=>by
  rw [←OY hn hp f]
  refine JW fun v _=> ?_
  unfold Ut ix
  by_cases h:p=v
  ·rw [if_pos h,if_pos (decide_eq_true h)];omega
  ·rw [if_neg h,if_neg (by simpa using h)];omega
 have e1:sm (fun l=>f (lA l) - f (lB l)) B=sm (fun l=>sm (fun v=>f v* (Ut v (lA l) - Ut v (lB l))) V) B:=by
  refine JW fun l hl=> ?_
  rw [hf _ (hV l hl).1,hf _ (hV l hl).2,←yu]
  refine JW fun v _=> ?_
  grind
 have mulL:∀(c:Int) (g:Leg→Int) (l:List Leg),sm (fun x=>c*g x) l=c*sm g l:=fun c g l=>by
  induction l with
  | nil=>simp [sm]
  | cons a l ih=>simp only [sm,ih];grind
 rw [e1,IC,←WU V]
 refine JW fun v _=> ?_
 rw [mulL,hc v,jjP]
def RK (a b:Pn) :Int:=a.1*b.2- a.2*b.1
def Gj (l:Leg) :Int:= (l.ax+l.bx) * (l.b_y- l.ay)
theorem jbx {B:List Leg} (hc:∀v,sm (fun l=>Ut v (lA l) - Ut v (lB l)) B=0) :sm (fun l=>RK (lA l) (lB l)) B=sm Gj B:=by
 have h:=MN hc (fun p=>p.1*p.2)
 have e:sm (fun l=>RK (lA l) (lB l)) B=sm (fun l=>Gj l+ ((lA l).1* (lA l).2- (lB l).1* (lB l).2)) B:=JW fun l _=>by
  simp only [RK,Gj,lA,lB];grind
 rw [e,xM,h,jj0]
def lvM (M:Nat) :List Int:= (List.range (2*M)).map fun (i:Nat) =>2* (i:Int) - 2* (M:Int) +1
theorem je1 (p:Leg) (j:Int) :num (tw p) (2*p.ay+2*j+1) =4*p.ax*den p+2* (p.bx- p.ax) * (2*j+1) :=by
 have q1: (tw p).ay=2*p.ay:=rfl
 have q2: (tw p).ax=2*p.ax:=rfl
 have q3: (tw p).bx=2*p.bx:=rfl
 unfold num
 rw [WY,q1,q2,q3]
 grind
theorem jgE {p:Leg} {M:Nat} (h1: -(M:Int)≤p.ay) (h2:p.ay≤p.b_y) (h3:p.b_y≤M) :sm (fun Y=>ix (va (tw p) Y) *num (tw p) Y) (lvM M) =Gj p* (2*den p) :=by
 have hd:den p=p.b_y- p.ay:=rfl
 have key:∀n:Nat,sm (fun (i:Nat) =>ix (va (tw p) (2* (i:Int) - 2* (M:Int) +1)) *num (tw p) (2* (i:Int) - 2* (M:Int) +1)) (List.range n)
   = (fun j:Int=>4*p.ax*den p*j+2* (p.bx- p.ax) * (j*j)) (if(n:Int)≤M+p.ay then 0 else if(n:Int)≤M+p.b_y then(n:Int) - M- p.ay else den p) :=fun n=>by
  induction n with
  | zero=>
   rw [if_pos Om]
   simp [sm]
  | succ n ih=>
   rw [List.range_succ,Kn,ih]
   simp only [sm,jj0]
   have q1: (tw p).ay=2*p.ay:=rfl
   have q4: (tw p).b_y=2*p.b_y:=rfl
   have ha:va (tw p) (2* (n:Int) - 2* (M:Int) +1) =true↔p.ay≤(n:Int) - M∧(n:Int) - M<p.b_y:=by
    rw [qX,q1,q4];omega
   by_cases c1: ((n+1:Nat) :Int)≤M+p.ay
   ·rw [if_pos Om,if_pos c1]
    have:va (tw p) (2* (n:Int) - 2* (M:Int) +1) =false:=by
     cases k:va (tw p) (2* (n:Int) - 2* (M:Int) +1) with
     | false=>rfl
     | true=> (have:=ha.1 k;omega)
    rw [this]
    simp [ix]
   ·rw [if_neg c1]
    by_cases c2: ((n+1:Nat) :Int)≤M+p.b_y
    ·rw [if_pos c2,ha.2 Om]
     have e0: (if(n:Int)≤M+p.ay then(0:Int) else if(n:Int)≤M+p.b_y then(n:Int) - M- p.ay else den p) = (n:Int) - M- p.ay:=by
      split
      ·omega
      ·rw [if_pos Om]
     rw [e0]
     obtain ⟨j,hj⟩ :∃j:Int,j= (n:Int) - M- p.ay:=⟨_,rfl⟩
     have e1: (2* (n:Int) - 2* (M:Int) +1) =2*p.ay+2*j+1:=by omega
     have e2: ((n+1:Nat) :Int) - M- p.ay=j+1:=by omega
     rw [e1,e2,←hj,je1]
     have:ix true=1:=rfl
     rw [this]
     grind
    ·rw [if_neg c2]
     have e0: (if(n:Int)≤M+p.ay then(0:Int) else if(n:Int)≤M+p.b_y then(n:Int) - M- p.ay else den p) =den p:=by
      split
      ·omega
      ·split
       ·omega
       ·rfl
     have:va (tw p) (2* (n:Int) - 2* (M:Int) +1) =false:=by
      cases k:va (tw p) (2* (n:Int) - 2* (M:Int) +1) with
      | false=>rfl
      | true=> (have:=ha.1 k;omega)
     rw [e0,this]
     simp [ix]
 unfold lvM
 rw [VZ,key]
 have e0: (if((2*M:Nat) :Int)≤M+p.ay then(0:Int) else if((2*M:Nat) :Int)≤M+p.b_y then((2*M:Nat) :Int) - M- p.ay else den p) =den p:=by
  split
  ·omega
  ·split
   ·omega
   ·rfl
 rw [e0]
 unfold Gj
 rw [←hd]
 grind
theorem IA {α:Type} (c:Int) (g:α→Int) (l:List α) :sm (fun x=>c*g x) l=c*sm g l:=by
 induction l with
 | nil=>simp [sm]
 | cons a l ih=>simp only [sm,ih];grind
theorem ja9 {K E F:List Leg} {how:Int} (hE:Keys K E) (hF:Keys K F) {M:Nat} (hM:∀p∈K,-(M:Int)≤p.ay∧p.b_y≤M) :0≤sm (fun l=>RK (lA l) (lB l)) (Kw K E F how) :=by
 rw [jbx (xf hE hF)]
 have e1:sm Gj (Kw K E F how) =sm (fun p=>cB E F how p*Gj p) K:=by
  unfold Kw
  rw [X8]
  refine JW fun p _=> ?_
  rw [Mq p _ _ _ (by simp only [Gj,Qn];grind)]
  rfl
 rw [e1]
 have hD:=Hi (K.map tw)
 have e2:∀p∈K,WP (K.map tw) *Gj p=sm (fun Y=>ix (va (tw p) Y) *xOf (WP (K.map tw)) Y (tw p)) (lvM M) :=fun p hp=>by
  have ho:p.ay<p.b_y∨(p.ay=p.b_y∧p.ax<p.bx) :=hE.ord p hp
  have hm:=hM p hp
  rcases ho with hlt |⟨heq,_⟩
  ·have dp:0<den (tw p) :=by rw [WY];unfold den;omega
   obtain ⟨c,hc⟩ :=ZJ (Zo hp) dp
   have ec:WP (K.map tw) /den (tw p) =c:=by rw [hc];exact Int.mul_ediv_cancel_left _ (Int.ne_of_gt dp)
   have e3:sm (fun Y=>ix (va (tw p) Y) *xOf (WP (K.map tw)) Y (tw p)) (lvM M) =c*sm (fun Y=>ix (va (tw p) Y) *num (tw p) Y) (lvM M) :=by
    rw [←IA]
    refine JW fun Y _=> ?_
    unfold xOf
    rw [ec]
    grind
   rw [e3,jgE hm.1 Om hm.2,hc,WY]
   grind
  ·have z:∀Y,va (tw p) Y=false:=fun Y=>by
    cases k:va (tw p) Y with
    | false=>rfl
    | true=>
     have:=qX.1 k
     have q1: (tw p).ay=2*p.ay:=rfl
     have q4: (tw p).b_y=2*p.b_y:=rfl
     omega
   have t0:Gj p=0:=by unfold Gj;rw [heq];grind
   rw [t0,jjP]
   refine((JW fun Y _=> ?_).trans (WU (lvM M))).symm
   rw [z]
   simp [ix]
 have e4:WP (K.map tw) *sm (fun p=>cB E F how p*Gj p) K=sm (fun Y=>sm (fun p=>cB E F how p* (ix (va (tw p) Y) *xOf (WP (K.map tw)) Y (tw p))) K) (lvM M) :=by
  rw [←IA,←IC]
  refine JW fun p hp=> ?_
  rw [IA,←e2 p hp]
  grind
 have e5:0≤WP (K.map tw) *sm (fun p=>cB E F how p*Gj p) K:=by
  rw [e4]
  refine IB fun Y _=> ?_
  have hl:=Nr hE.net hF.net (gW how) (fun a b=>by unfold gW ix;split<;>decide) (by unfold gW;rw [GR];rfl) (xOf (WP (K.map tw)) Y) (Y:=Y) (fun e he p hp ha hb h=>jhh he hp (by have:=qX.1 ha;unfold den;omega) (by have:=qX.1 hb;unfold den;omega) h)
  rw [VZ] at hl
  refine jjC hl (jjX (JW fun p hp=> ?_))
  have:dg (gW how) (K.map tw) (Qe (E.map tw)) (Qe (F.map tw)) Y (tw p) *ix (va (tw p) Y) =cB E F how p*ix (va (tw p) Y) :=Ni fun h=> (hE.cB_dg hF hp h).symm
  rw [this]
  grind
 rcases Int.lt_or_le (sm (fun p=>cB E F how p*Gj p) K) 0 with h | h
 ·have:=jjA hD h
  omega
 ·exact h
theorem NH {a b c d:Pn} (h:ve a b c d=true) (hn:¬((a=c∧b=d)∨(a=d∧b=c))) :
  qf a b c d≠true∧∀q,q∈Qk a b c d→(q=a∨q=b)∧(q=c∨q=d) :=by
 have h01:qU a b c d=0∨(qU a b c d=1∧(a=c∨a=d∨b=c∨b=d)) :=by
  by_cases ap:kG a b c d=true
  ·exact .inl (Yi ap)
  ·unfold ve at h
   rw [if_neg ap] at h
   rcases Lf a b c d with e | e | e | e<;>rw [e] at h
   ·exact .inl e
   ·refine .inr ⟨e,?_⟩
    rw [if_neg Dc,if_pos rfl] at h
    simp only [ne_eq,decide_not,ji2,jjG,Bool.not_eq_false',decide_eq_true_eq] at h
    rcases h with((h | h) | h) | h
    ·exact .inl h
    ·exact .inr (.inl h)
    ·exact .inr (.inr (.inl h))
    ·exact .inr (.inr (.inr h))
   ·rw [if_pos rfl] at h;cases h
   ·rw [if_neg Dc,if_neg Dc,if_pos rfl] at h
    exact absurd (by simpa using h) hn
 rcases h01 with e |⟨e,hs⟩
 ·have hl: (Qk a b c d).length=0:=by
   unfold qU at e
   by_cases hl: (Qk a b c d).length=0
   ·exact hl
   ·rw [if_neg hl] at e
    split at e<;>cases e
  refine⟨fun k=> ?_,fun q hq=> ?_⟩
  ·unfold qU at e
   rw [if_pos hl,if_pos k] at e
   cases e
  ·rw [List.length_eq_zero_iff.1 hl] at hq
   cases hq
 ·have hl: (Qk a b c d).length=1:=by
   unfold qU at e
   by_cases h0: (Qk a b c d).length=0
   ·rw [if_pos h0] at e
    split at e<;>cases e
   ·rw [if_neg h0] at e
    by_cases h1: (Qk a b c d).length=1
    ·exact h1
    ·rw [if_neg h1] at e;cases e
  have hv:∃v,v∈Qk a b c d∧(v=a∨v=b)∧(v=c∨v=d) :=by
   rcases hs with k | k | k | k
   ·exact⟨a,qL.2 ⟨.inl rfl,by rw [kk,wh,k,wh];rfl⟩, .inl rfl, .inl k⟩
   ·exact⟨a,qL.2 ⟨.inl rfl,by rw [kk,wh,k,wT];rfl⟩, .inl rfl, .inr k⟩
   ·exact⟨b,qL.2 ⟨.inr (.inl rfl),by rw [kk,wT,k,wh];rfl⟩, .inr rfl, .inl k⟩
   ·exact⟨b,qL.2 ⟨.inr (.inl rfl),by rw [kk,wT,k,wT];rfl⟩, .inr rfl, .inr k⟩
  obtain ⟨v,hm,hab,hcd⟩ :=hv
  obtain ⟨x,hx⟩ :=List.length_eq_one_iff.1 hl
  have hvx:v=x:=by rw [hx] at hm;simpa using hm
  refine⟨fun k=> ?_,fun q hq=> ?_⟩
  ·have z:∀p q:Pn,tn p q p=0∧tn p q q=0:=fun p q=>by unfold tn Q8;constructor<;>grind
   unfold qf at k
   simp only [jig,decide_eq_true_eq] at k
   have k1:=k.1
   have s0:wt 0=0:=rfl
   rcases hab with e1 | e1<;>rcases hcd with e2 | e2
   ·rw [←e2,e1,(z a b).1,s0,ji7] at k1;omega
   ·rw [←e2,e1,(z a b).1,s0,jjP] at k1;omega
   ·rw [←e2,e1,(z a b).2,s0,ji7] at k1;omega
   ·rw [←e2,e1,(z a b).2,s0,jjP] at k1;omega
  ·have:q=v:=by rw [hx] at hq;rw [hvx];simpa using hq
   rw [this]
   exact⟨hab,hcd⟩
theorem jcB (e:Leg) :Q5 e=e∨Q5 e=Qn e:=by unfold Q5;split<;>simp
theorem NG {e f:Leg} (h:ve (lA e) (lB e) (lA f) (lB f) =true) (hn:¬((lA e=lA f∧lB e=lB f)∨(lA e=lB f∧lB e=lA f))) :Meets e f:=by
 obtain ⟨h1,h2⟩ :=NH h hn
 have on1:=wh;have on2':=wT
 refine⟨h1,fun q hq ho=> (h2 q (qL.2 ⟨hq.elim .inl fun k=> .inr (.inl k),?_⟩)).2,fun q hq ho=> (h2 q (qL.2 ⟨.inr (.inr hq),?_⟩)).1⟩
 ·unfold kk
  rw [ho]
  rcases hq with k | k<;>rw [k]
  ·rw [on1];rfl
  ·rw [on2'];rfl
 ·unfold kk
  rw [ho]
  rcases hq with k | k<;>rw [k]
  ·rw [on1];rfl
  ·rw [on2'];rfl
theorem Bd (a b c:Pn) :tn b a c= -tn a b c:=by unfold tn Q8;grind
theorem Tl (n:Int) :wt (-n) = -wt n:=by unfold wt;split<;>split<;> (try split) <;>omega
theorem uN (a b c d:Pn) :qf b a c d=qf a b c d:=by
 unfold qf
 rw [Bd a b,Bd a b,Tl,Tl,Int.neg_mul_neg,jiV (wt (tn c d b))]
theorem Ij (a b p:Pn) :uO b a p=uO a b p:=by
 have h:tn b a p=0↔tn a b p=0:=by rw [Bd a b];omega
 unfold uO DT
 have hb: (Q8 b.1 b.2 a.1 a.2 p.1 p.2==0) = (Q8 a.1 a.2 b.1 b.2 p.1 p.2==0) :=by
  have: (tn b a p==0) = (tn a b p==0) :=by
   by_cases k:tn a b p=0
   ·rw [k,h.2 k]
   ·rw [beq_eq_false_iff_ne.2 k,beq_eq_false_iff_ne.2 fun z=>k (h.1 z)]
  exact this
 rw [hb,jjZ b.1,jjY b.1,jjZ b.2,jjY b.2]
theorem Meets.rev {e f:Leg} (h:Meets e f) :Meets (Qn e) f:=
 ⟨by have:=h.no;rw [←uN] at this;exact this,fun q hq=>h.e1 q hq.symm,fun q hq ho=> (h.e2 q hq (by rw [←Ij];exact ho)).symm⟩
theorem Meets.nrm' {e f:Leg} (h:Meets e f) :Meets (Q5 e) (Q5 f) :=by
 have h1:Meets (Q5 e) f:=by
  rcases jcB e with k | k<;>rw [k]
  ·exact h
  ·exact h.rev
 rcases jcB f with k | k<;>rw [k]
 ·exact h1
 ·exact h1.symm.rev.symm
theorem jeY {e f:Leg} (he:lA e≠lB e) (hn:Q5 e≠Q5 f) :¬((lA e=lA f∧lB e=lB f)∨(lA e=lB f∧lB e=lA f)) :=by
 rintro(⟨h1,h2⟩ |⟨h1,h2⟩)
 ·exact hn (by rw [show e=f from U3 h1 h2])
 ·have:f=Qn e:=U3 h2.symm h1.symm
  exact hn (by rw [this,U5 he])
theorem je6 {e:Leg} (he:lA e≠lB e) :vh (lA (Q5 e)) (lB (Q5 e)) :=by
 unfold Q5
 split
 ·rename_i h;exact h
 ·rename_i h
  simp only [vh] at h⊢
  have: (lA e).1≠(lB e).1∨(lA e).2≠(lB e).2:=by
   by_cases k: (lA e).1= (lB e).1
   ·exact .inr fun z=>he (Prod.ext k z)
   ·exact .inl k
  omega
theorem PV {K E F:List Leg} (hn:K.Nodup) (hm:∀q,q∈K↔∃e∈F,q=Q5 e) (hne:∀l∈F,lA l≠lB l) (hP:x6 F) (hs:∀e∈E,e∈F) (hc:∀f:Int→Int→Int,sm (fun e:Leg=>f e.ax e.ay- f e.bx e.b_y) E=0) :Keys K E:=by
 have ho:∀p∈K,vh (lA p) (lB p) :=fun p hp=>by
  obtain ⟨e,he,rfl⟩ := (hm p).1 hp
  exact je6 (hne e he)
 have hme:∀e∈K,∀p∈K,e≠p→Meets e p:=fun e he p hp h=>by
  obtain ⟨x,hx,rfl⟩ := (hm e).1 he
  obtain ⟨y,hy,rfl⟩ := (hm p).1 hp
  exact(NG (hP x hx y hy) (jeY (hne x hx) h)).nrm'
 exact⟨hn,ho,fun e he p hp h=>jg4 (ho e he) (ho p hp) h (hme e he p hp h),fun e he p hp h=>jfp (ho e he) (ho p hp) h (hme e he p hp h),fun e he=> (hm _).2 ⟨e,hs e he,rfl⟩,hc⟩
theorem Hu {K:List Leg} {N:Leg→Int} {p:Leg} {Y:Int} :KF K N p Y=sm N (K.filter fun e=>va e Y&&Z6 e p) :=by
 unfold KF
 rw [←uy]
 refine JW fun e _=> ?_
 by_cases hep:e=p
 ·rw [if_pos hep,hep,Hr,ji9]
  simp [ix]
 ·rw [if_neg hep]
theorem jdJ {K:List Leg} {N:Leg→Int} (h:Net K N) {p:Leg} {Y:Int} (hp:p∈K) (ha:va p Y=true) :UpR K (K.filter fun e=>va e Y&&Z6 e p) Y where
 sub:=fun e he=>by
  have:=ji6.1 he
  rw [jig] at this
  exact⟨this.1,this.2.1⟩
 nd:=h.nd.filter _
 all:=fun q hq e he hea hr=>by
  have hq':=ji6.1 hq
  rw [jig] at hq'
  obtain ⟨hqK,hqa,hqr⟩ :=hq'
  refine ji6.2 ⟨he,?_⟩
  rw [hea,jix]
  have d1:0<den e:=by have:=qX.1 hea;unfold den;omega
  have d2:0<den q:=by have:=qX.1 hqa;unfold den;omega
  have d3:0<den p:=by have:=qX.1 ha;unfold den;omega
  have nqp:q≠p:=fun k=>by rw [k,Hr] at hqr;cases hqr
  have neq':e≠q:=fun k=>by rw [k,Hr] at hr;cases hr
  have r1:= (uY (h.sep q hqK p hp nqp) hqa ha).1 hqr
  have r2:= (uY (h.sep e he q hqK neq') hea hqa).1 hr
  have r3:=Hq d1 d2 d3 r2 r1
  by_cases k:e=p
  ·exfalso
   rw [k] at r3
   have z1:Vc p p Y=0:=by unfold Vc;omega
   have z2:I6 p p=0:=by unfold I6;omega
   unfold rgY at r3
   omega
  ·exact(uY (h.sep e he p hp k) hea ha).2 r3
theorem OX {p l:Leg} {a b:Bool} (h:l∈zk p a b) :l=p∨l=Qn p:=by
 unfold zk at h
 split at h
 ·exact .inl (jik.1 h)
 ·split at h
  ·exact .inr (jik.1 h)
  ·cases h
theorem XH {p:Leg} (h:vh (lA p) (lB p)) :Q5 p=p∧Q5 (Qn p) =p∧sg p=1∧sg (Qn p) = -1:=by
 have h': (lA p).2< (lB p).2∨((lA p).2= (lB p).2∧(lA p).1< (lB p).1) :=h
 have n1:¬vh (lB p) (lA p) :=fun k=>by
  have k': (lB p).2< (lA p).2∨((lB p).2= (lA p).2∧(lB p).1< (lA p).1) :=k
  omega
 have n2:vh (lB (Qn p)) (lA (Qn p)) :=h
 refine⟨by unfold Q5;rw [if_neg n1],by unfold Q5;rw [if_pos n2];rfl,by unfold sg;rw [if_neg n1],by unfold sg;rw [if_pos n2]⟩
theorem jba {K E F:List Leg} {how:Int} {l:Leg} (h:l∈Kw K E F how) :∃p∈K,l∈zk p (Qy (kX E p).left (kX F p).left how) (Qy (kX E p).right (kX F p).right how) :=jjL.1 h
theorem Keys.brd {K E F:List Leg} {how:Int} (hE:Keys K E) (hF:Keys K F) :Keys K (Kw K E F how) :=
 ⟨hE.nd,hE.ord,hE.sep,hE.sepl,fun e he=>by
  obtain ⟨p,hp,hl⟩ :=jba he
  have:=XH (hE.ord p hp)
  rcases OX hl with k | k<;>rw [k]
  ·rw [this.1];exact hp
  ·rw [this.2.1];exact hp,fun f=>MN (xf hE hF) fun p=>f p.1 p.2⟩
theorem Cf {K E F:List Leg} {how:Int} (hE:Keys K E) {p:Leg} (hp:p∈K) :Qe (Kw K E F how) p=cB E F how p:=by
 unfold Qe Kw
 rw [X8,←OY hE.nd hp (cB E F how)]
 refine JW fun q hq=> ?_
 obtain ⟨n1,n2,n3,n4⟩ :=XH (hE.ord q hq)
 rw [Mq q _ _ (fun e=>if Q5 e=p then sg e else 0) (by show(if Q5 (Qn q) =p then sg (Qn q) else 0) = -(if Q5 q=p then sg q else 0);rw [n1,n2,n3,n4];split<;>rfl)]
 show(ix _- ix _) * (if Q5 q=p then sg q else 0) =_
 rw [n1,n3]
 by_cases k:p=q
 ·rw [if_pos k,if_pos k.symm]
  unfold cB
  omega
 ·rw [if_neg k,if_neg (Ne.symm k),jjP]
theorem Cu {K E F:List Leg} {how:Int} (hE:Keys K E) (hF:Keys K F) {R:List Leg} {Y:Int} (hu:UpR (K.map tw) R Y) :
  sm (Qe ((Kw K E F how).map tw)) R=gW how (sm (Qe (E.map tw)) R) (sm (Qe (F.map tw)) R) :=by
 have h:=ray hE.net hF.net hu (gW how)
 rw [show gW how 0 0=0 by unfold gW;rw [GR];rfl,Int.sub_zero] at h
 rw [←h]
 refine JW fun e he=> ?_
 obtain ⟨hek,hea⟩ :=hu.sub e he
 obtain ⟨q,hq,rfl⟩ :=jip.1 hek
 rw [HH,Cf hE hq]
 exact hE.cB_dg hF hq hea
theorem Es {K E F:List Leg} {how:Int} (hE:Keys K E) (hF:Keys K F) {p:Leg} (hp:p∈K) :
  (kX (Kw K E F how) p).left=ix (Qy (kX E p).left (kX F p).left how)∧(kX (Kw K E F how) p).right=ix (Qy (kX E p).right (kX F p).right how) :=by
 have hB:=hE.brd (how:=how) hF
 have hn:=Cf (F:=F) (how:=how) hE hp
 have ho:p.ay<p.b_y∨(p.ay=p.b_y∧p.ax<p.bx) :=hE.ord p hp
 have q1: (tw p).ay=2*p.ay:=rfl
 have q2: (tw p).b_y=2*p.b_y:=rfl
 rcases ho with hl |⟨hl,_⟩
 ·have hmid:va (tw p) (KU p) =true:=qX.2 (by unfold KU;omega)
  have e0:wy (Kw K E F how) p=ix (Qy (wy E p) (wy F p) how) :=by
   rw [hB.out hp hl,hE.out hp hl,hF.out hp hl,Hu,Hu,Hu]
   exact Cu hE hF (jdJ hE.net (Zo hp) hmid)
  unfold cB at hn
  unfold kX at hn⊢
  rw [if_neg Om,if_neg Om] at hn
  rw [if_neg Om,if_neg Om,if_neg Om]
  simp only at hn⊢
  rw [hn,e0]
  exact⟨by omega,rfl⟩
 ·have e0:wy (Kw K E F how) p=ix (Qy (wy E p) (wy F p) how) :=by
   rw [hB.lev_out hp hl true (X:=2*p.bx) rfl,hE.lev_out hp hl true (X:=2*p.bx) rfl,hF.lev_out hp hl true (X:=2*p.bx) rfl]
   exact Cu hE hF (jdI hE.net _ true (jj8 _) fun e _ ha=>by have:=qX.1 ha;omega)
  unfold cB at hn
  unfold kX at hn⊢
  rw [if_pos hl,if_pos hl] at hn
  rw [if_pos hl,if_pos hl,if_pos hl]
  simp only at hn⊢
  rw [hn,e0]
  exact⟨rfl,by omega⟩
theorem PQ (b:Bool) :Qy (ix b) 0 1=b:=by cases b<;>rfl
theorem jeS (p:Leg) : (kX [] p).left=0∧(kX [] p).right=0:=by
 unfold kX
 split<;>exact⟨rfl,rfl⟩
theorem Ep {K K2 E F:List Leg} {how:Int} (hE:Keys K E) (hF:Keys K F) (hK:K2=K.filter fun p=> !(zk p (Qy (kX E p).left (kX F p).left how) (Qy (kX E p).right (kX F p).right how)).isEmpty) {B:List Leg} (hB:∀p,kX B p=kX (Kw K E F how) p) :
  Kw K2 B [] 1=Kw K E F how:=by
 rw [hK]
 have key:∀L:List Leg,(∀p∈L,p∈K)→Kw (L.filter fun p=> !(zk p (Qy (kX E p).left (kX F p).left how) (Qy (kX E p).right (kX F p).right how)).isEmpty) B [] 1=Kw L E F how:=fun L=>by
  induction L with
  | nil=>intro _;rfl
  | cons p L ih=>
   intro hL
   have ih':=ih fun q hq=>hL q (jiq _ hq)
   obtain ⟨s1,s2⟩ :=Es (how:=how) hE hF (hL p (jiE ..))
   obtain ⟨z1,z2⟩ :=jeS p
   rw [jj9]
   have e0:Kw (p::L) E F how=zk p (Qy (kX E p).left (kX F p).left how) (Qy (kX E p).right (kX F p).right how) ++Kw L E F how:=by
    unfold Kw;rw [jiB]
   rw [e0]
   split
   ·have e1:∀M:List Leg,Kw (p::M) B [] 1=zk p (Qy (kX B p).left (kX [] p).left 1) (Qy (kX B p).right (kX [] p).right 1) ++Kw M B [] 1:=fun M=>by
     unfold Kw;rw [jiB]
    rw [e1,ih',hB p,s1,s2,z1,z2,PQ,PQ]
   ·rename_i hk
    rw [ih']
    have:zk p (Qy (kX E p).left (kX F p).left how) (Qy (kX E p).right (kX F p).right how) = [] :=by simpa using hk
    rw [this,jiW]
 exact key K fun _ h=>h
end Go.Proofs.YtpncbbcmoiiipaaGreat
