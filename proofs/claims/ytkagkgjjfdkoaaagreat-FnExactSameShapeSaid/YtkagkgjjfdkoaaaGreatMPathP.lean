import Derived.Test.YtkagkgjjfdkoaaaGreatMWay
import Derived.Test.YtkagkgjjfdkoaaaGreatMPix
import Derived.Test.YtkagkgjjfdkoaaaGreatMHot
import Derived.Test.YtkagkgjjfdkoaaaGreatMOrd
import Derived.Test.YtkagkgjjfdkoaaaGreatMBounds
import Derived.Test.YtkagkgjjfdkoaaaGreatMSnapped
set_option linter.unusedVariables false
set_option linter.unusedSimpArgs false
namespace Go.Proofs.YtkagkgjjfdkoaaaGreat
open Go Go.RowKit
def Ew (x y:Wy) :Prop:=x.num*y.den<y.num*x.den∨(x.num*y.den=y.num*x.den∧x.cl=true∧y.cl=false)
def vS (x y:Wy) :Int:=if Wh (x.num*y.den- y.num*x.den)≠0 then Wh (x.num*y.den- y.num*x.den) else if(x.cl&& !y.cl) =true then-1 else if(!x.cl&&y.cl) =true then 1 else 0
theorem OS {x y:Wy} :vS x y<0↔Ew x y:=by
 unfold vS Ew
 have k:=vh (x.num*y.den- y.num*x.den)
 split
 ·omega
 ·cases x.cl<;>cases y.cl<;>simp<;>omega
theorem Nz:Weak (Qr vS) :=by
 have e:∀x y,Qr vS x y=true↔Ew x y:=fun x y=>by rw [Qr,decide_eq_true_eq,OS]
 have e':∀x y,Qr vS x y=false↔¬Ew x y:=fun x y=>by rw [←e x y,Bool.not_eq_true]
 refine⟨fun a b h=> ?_,fun a b c h1 h2=> ?_⟩
 ·rw [e'] ;rw [e] at h
  rintro(h2 |⟨h2,h3,h4⟩)
  ·rcases h with h |⟨h,_,_⟩ <;>omega
  ·rcases h with h |⟨h,h5,h6⟩
   ·omega
   ·rw [h5] at h4;cases h4
 ·rw [e'] at h1 h2⊢
  have b1:b.num*a.den≤a.num*b.den:=jfx.1 fun h=>h1 (.inl h)
  have b2:c.num*b.den≤b.num*c.den:=jfx.1 fun h=>h2 (.inl h)
  rintro(h |⟨h,h3,h4⟩)
  ·have:=vT b.pos c.pos a.pos b2 b1
   omega
  ·have g1:¬b.num*a.den<a.num*b.den:=fun h'=>by
    have:=K5 b.pos c.pos a.pos b2 h'
    omega
   have g2:¬c.num*b.den<b.num*c.den:=fun h'=>by
    have:=Vx b.pos c.pos a.pos h' b1
    omega
   cases hb:b.cl with
   | true=>exact h2 (.inr ⟨by omega,hb,h4⟩)
   | false=>exact h1 (.inr ⟨by omega,h3,hb⟩)
def JU (a b p:Pn) :Sp:=JT (JT Wq (QE (2*a.1) (2* (b.1- a.1)) (2*p.1- 1))) (QE (2*a.2) (2* (b.2- a.2)) (2*p.2- 1))
def WX (a b p:Pn) :Bool:=xm (2*a.1) (2* (b.1- a.1)) (2*p.1- 1) (2*a.2) (2* (b.2- a.2)) (2*p.2- 1)
theorem Vk (a b p:Pn) :0< (JU a b p).ld∧0< (JU a b p).hd:=Kw (Kw uu (kG _ _ _)) (kG _ _ _)
def OK (a b p:Pn) :Wy:=⟨p.1,p.2,(JU a b p).ln,(JU a b p).ld,(JU a b p).lc,(Vk a b p).1⟩
def UB (a b p:Pn) :Bool:= !(decide (p.1<min a.1 b.1- 1) || decide (p.1>max a.1 b.1+1))
def Yp (a b p:Pn) :Bool:= !(decide (p.2<min a.2 b.2- 1) || decide (p.2>max a.2 b.2+1))
def KR (a b p:Pn) :Bool:=UB a b p&&Yp a b p&&WX a b p
def KE (a b:Pn) (hot:List Pn) :List Wy:= (hot.filter (KR a b)).map (OK a b)
def Qj (a b:Pn) (hot:List Pn) :List Pn:= (srt (Qr vS) (KE a b hot)).map fun e=> (e.x,e.y)
theorem NR (a b p:Pn) (hi:WX a b p=true) :uf Wq (2*a.1) (2* (b.1- a.1)) (2*p.1- 1) =true∧VJ (VJ Wq (2*a.1) (2* (b.1- a.1)) (2*p.1- 1)) (2*a.2) (2* (b.2- a.2)) (2*p.2- 1) =JU a b p:=by
 have:=FT (2*a.1) (2* (b.1- a.1)) (2*p.1- 1) (2*a.2) (2* (b.2- a.2)) (2*p.2- 1)
 unfold WX at hi
 rw [hi] at this
 have h2:= (jeF _ _▸this.symm:_∧_)
 refine⟨h2.1,?_⟩
 rw [Lu MC,Lu BR]
 rfl
theorem Bq {a b p:Pn} (ha:bd2 a) (hb:bd2 b) (hp:bd2 p) :bdP (JU a b p) :=by
 obtain ⟨⟨a1,a2⟩,a3,a4⟩ :=ha
 obtain ⟨⟨b1,b2⟩,b3,b4⟩ :=hb
 obtain ⟨⟨p1,p2⟩,p3,p4⟩ :=hp
 have hx:=zC (2*a.1) (2* (b.1- a.1)) (2*p.1- 1) (by omega) (by omega) (by omega) (by omega) (by omega) (by omega)
 have hy:=zC (2*a.2) (2* (b.2- a.2)) (2*p.2- 1) (by omega) (by omega) (by omega) (by omega) (by omega) (by omega)
 exact wM (wt (wM (wt MB hx) hx) hy) hy
theorem Xu (a b:Pn) (l m:List Pn) :KE a b (l++m) =KE a b l++KE a b m:=by simp [KE,jfW]
theorem Gn {a b:Pn} {l:List Pn} (h:∀p∈l,KR a b p=false) :KE a b l= [] :=by
 unfold KE
 rw [List.filter_eq_nil_iff.2 fun p hp=>by rw [h p hp];decide]
 rfl
theorem jaW {a b p:Pn} (h:KR a b p=true) :KE a b [p] = [OK a b p] :=by simp [KE,h]
theorem Xo {xs:List Pn} {k:Nat} (h:k<xs.length) :xs.take (k+1) =xs.take k++ [pt xs k] :=by
 rw [jeS h,Kl h]
theorem RC (a b:Pn) (l:List Pn) : (KE a b l).length≤l.length:=by
 unfold KE
 rw [jeX]
 exact jf0 _ _
theorem jaV {a b:Pn} {l:List Pn} {e:Wy} (h:e∈KE a b l) :∃p∈l,e=OK a b p:=by
 obtain ⟨p,hp,rfl⟩ :=je7.1 h
 exact⟨p,(jgf.1 hp).1,rfl⟩
end Go.Proofs.YtkagkgjjfdkoaaaGreat
namespace Go.Proofs.YtkagkgjjfdkoaaaGreat
open Go Go.RowKit
set_option maxRecDepth 100000
set_option maxHeartbeats 4000000
theorem OC (x y:Wy) (w:World) (hx:bd1 x.num x.den) (hy:bd1 y.num y.den) :Calls Tryz.prog 121 #[x.val,y.val] w fun e w'=>e= .returned (.int .i64 (vS x y))∧Over w w':=by
 refine jU (m:=34) (Tryz.func121) J J (lb J) ?_;refine S3 ?_;refine aX (fun b1=> ?_);refine N1 ?_;refine aX (fun b2=> ?_);refine N9 ?_;refine a9 (jH KN J J (fun w1 hs=>Vv _ _ _ _ _ _ w1 hx hy)) ?_;refine S7 ?_;refine cZ (fun c1=> ?_) (fun c1=> ?_)
 ·refine S7 ?_;refine jL J (.tmp J) ?_
  intro w' hs
  exact⟨by rw [vS,if_pos c1],hs.fin⟩
 ·refine S10 ?_;refine cV 18 (fun g1=> ?_) (fun g1=> ?_)
  ·refine S11 ?_;refine cZ (fun c2=> ?_) (fun c2=> ?_)
   ·refine S7 ?_;refine jL J (.tmp J) ?_
    intro w' hs
    exact⟨by unfold vS;rw [if_neg (fun h=>h c1)];simp_all,hs.fin⟩
   ·refine S7 ?_;refine cV 29 (fun g2=> ?_) (fun g2=> ?_)
    ·refine S9 ?_;refine cZ (fun c3=> ?_) (fun c3=> ?_)
     ·refine S7 ?_;refine jL J (.tmp J) ?_
      intro w' hs
      exact⟨by unfold vS;rw [if_neg (fun h=>h c1)];simp_all,hs.fin⟩
     ·refine S8 ?_;refine jL J (.tmp J) ?_
      intro w' hs
      exact⟨by unfold vS;rw [if_neg (fun h=>h c1)];simp_all,hs.fin⟩
    ·refine S15 ?_;refine jL J (.tmp J) ?_
     intro w' hs
     exact⟨by unfold vS;rw [if_neg (fun h=>h c1)];simp_all,hs.fin⟩
  ·refine S15 ?_;refine cV 29 (fun g3=> ?_) (fun g3=> ?_)
   ·refine S9 ?_;refine cZ (fun c4=> ?_) (fun c4=> ?_)
    ·refine S7 ?_;refine jL J (.tmp J) ?_
     intro w' hs
     exact⟨by unfold vS;rw [if_neg (fun h=>h c1)];simp_all,hs.fin⟩
    ·refine S8 ?_;refine jL J (.tmp J) ?_
     intro w' hs
     exact⟨by unfold vS;rw [if_neg (fun h=>h c1)];simp_all,hs.fin⟩
   ·refine S15 ?_;refine jL J (.tmp J) ?_
    intro w' hs
    exact⟨by unfold vS;rw [if_neg (fun h=>h c1)];simp_all,hs.fin⟩
theorem SG {w:World} {B n:Nat} {l:List Wy} {x:Option Addr×Nat} (hrow: (JP B 155 5 n (l.flatMap Wy.cells) x).P w) (hl:l.length=n) (hb:∀e∈l,bd1 e.num e.den) (hn:n≤1099511627776) :
  Calls Tryz.prog 120 #[.slice x.1 n x.2, .func (.func 121) #[] #[]] w fun e w'=>e= .returned (.tuple #[])∧Wrs (JP B 155 5 n (l.flatMap Wy.cells) x).F w w'∧(JP 0 155 5 n ((srt (Qr vS) l).flatMap Wy.cells) x).P w':=by
 have hrow':w.ownsRow B 155 5 (.slice x.1 n x.2) n (l.flatMap Wy.cells) :=hrow
 rcases hrow'.2 with⟨e,e2⟩ |⟨g,cap,cur,e,hbg,hg,hcap,hmax,hsz,htk⟩
 ·subst e2
  obtain rfl:l= [] :=je9 hl
  refine(SI x.1 x.2 _ w).mono ?_
  rintro e' w' ⟨rfl,hO⟩
  refine⟨J,Wrs.of hO,?_⟩
  show w'.ownsRow 0 155 5 (.slice x.1 0 x.2) 0 _
  rw [e]
  exact World.ownsRow_nil _ _ _ _
 ·injection e with e1 e3 e4
  have hF:∀b,b=g→(JP B 155 5 n (l.flatMap Wy.cells) x).F b:=by
   rintro b rfl
   show Value.ownBlock (.slice x.1 n x.2) =some _
   rw [e1]
   rfl
  have hcl:cur.toList.length=cap*5:=by simp [hsz]
  have hcur:cur= (Wp (l++ []) (cur.toList.drop (n*5))).toArray:=by
   rw [je8,Wp,←htk,jeU,jfJ]
  have hC:CmpW w g (·∈l) vS:=⟨fun u hu v hv w' ho=>OC u v w' (hb u hu) (hb v hv),Nz⟩
  have:=jcc g 155 (cur.toList.drop (n*5)) l [] n x.2 _ _ w hC (by rw [←hcur];exact hg) hl hn (fun u hu=>hu)
  rw [e1]
  refine this.mono ?_
  rintro e' w' ⟨rfl,hw,hh⟩
  refine⟨J,⟨hw.os,hw.tape,hw.output,hw.size,fun c hc hnc=>hw.block c hc (fun ec=>hnc (hF c ec))⟩,?_⟩
  rw [je8] at hh
  have hml: ((srt (Qr vS) l).flatMap Wy.cells).length=n*5:=by rw [Xz,Qf,hl]
  refine⟨hml, .inr ⟨g,x.2,_,by rw [e1],jeE _,hh,by rw [e4];exact hcap,by rw [e4];exact hmax,?_,?_⟩⟩
  ·rw [jfu,Wp,jeC,hml,je2,hcl,e4]
   omega
  ·rw [jeK,Wp,List.take_append_of_le_length (by omega),jfb (by omega)]
theorem z8 (p:Pn) (t:Int) (w:World) (hp:zJ p) (ht: -1152921504606846976≤t∧t≤1152921504606846976) :Calls Tryz.prog 118 #[pV p, .int .i64 t] w fun e w'=>e= .returned (.int .i64 (Wh (p.2- t)))∧Over w w':=by
 obtain ⟨⟨p1,p2⟩,p3,p4⟩ :=hp
 refine jU (m:=10) (Tryz.func118) J J (lb J) ?_;refine S3 ?_;refine aX (fun b1=> ?_);refine N8 ?_;refine a9 (jH QI J J (fun w h=>Calls.still (Ka _ w))) ?_;refine S3 ?_;refine jL J (.tmp J) ?_
 intro w' hs
 exact⟨rfl,hs.fin⟩
def ZX (xs:List Pn) (t:Int) :Nat:= (xs.takeWhile fun p=>decide (p.2<t)).length
theorem CB:∀ {xs:List Pn} {t:Int} {i:Nat},i≤xs.length→(∀k,k<i→py xs k<t)→(i<xs.length→t≤py xs i)→ZX xs t=i
 | [],_,i,h,_,_=>by simp at h;subst h;rfl
 | p::xs,t,0,_,_,h3=>by
  have:=h3 (by simp)
  have e:py (p::xs) 0=p.2:=rfl
  unfold ZX
  rw [List.takeWhile_cons_of_neg (by simp;omega)]
  rfl
 | p::xs,t,i+1,h1,h2,h3=>by
  have e:py (p::xs) 0=p.2:=rfl
  have h0:=h2 0 (by omega)
  have ek:∀k,py (p::xs) (k+1) =py xs k:=fun k=>by simp [py]
  unfold ZX
  rw [List.takeWhile_cons_of_pos (by simp;omega),jeP]
  have:=CB (xs:=xs) (t:=t) (i:=i) (by simpa using h1) (fun k hk=>by have:=h2 (k+1) (by omega);rwa [ek] at this) (fun hi=>by have:=h3 (by simpa using hi);rwa [ek] at this)
  unfold ZX at this
  omega
def pt2 (xs:List Pn) (k:Nat) :Int:=py xs k
def Lg (xs:List Pn) :Prop:=∀k j,k≤j→j<xs.length→py xs k≤py xs j
theorem Cq {xs:List Pn} (h:Asc xs) :Lg xs:=fun k j hkj hj=>by
 rcases jfX hkj with h1 | rfl
 ·have:=jfH.1 h k j (by omega) hj h1
  rw [Kl,Kl] at this
  unfold wq pt at this
  simp only at this
  omega
 ·exact Int.le_refl _
theorem XC (A:Option Addr) (n c:Nat) (xs:List Pn) (t:Int) (w:World) (h:Pts w A n xs) (hx:∀p∈xs,zJ p) (ht: -1152921504606846976≤t∧t≤1152921504606846976) (hm:Lg xs) (hn:n≤1099511627776) :
  Calls Tryz.prog 117 #[.slice A n c, .int .i64 t, .func (.func 118) #[] #[]] w fun e w'=>e= .returned (.tuple #[.int .i64 ((ZX xs t:Nat) :Int), .bool (decide (ZX xs t<n) &&decide (Wh (py xs (ZX xs t) - t) =0))])∧Over w w':=by
 have hl:=h.1
 have hbd:∀k,k<n→zJ (pt xs k) :=fun k hk=>hx _ (by rw [←Kl (by omega)];exact jeW _)
 refine jU (m:=49) (Tryz.func117) J J (lb J) ?_;refine S19 ?_;refine qi (X:=Nat×Nat) (fun q=>q.1≤q.2∧q.2≤n∧(∀k,k<q.1→py xs k<t)∧(∀k,q.2≤k→k<n→t≤py xs k)) (fun q=>q.2- q.1) (fun q=> [(9, .int .i64 (q.1:Int)),(10, .int .i64 (q.2:Int))]) (kK [0,1,2,6,7,8]) (0,n) (⟨jeE _,jeD _,fun k hk=>absurd hk (by simp),fun k h1 h2=>absurd (jeR h2 h1) (Nat.lt_irrefl _)⟩) ⟨J,sz⟩ ?_
 intro⟨i,j⟩ hq L hL1
 refine v9 ?_
 obtain ⟨q1,q2,q3,q4⟩ :i≤j∧j≤n∧(∀k,k<i→py xs k<t)∧(∀k,j≤k→k<n→t≤py xs k) :=hq
 refine S7 ?_;refine cZ (fun c1=> ?_) (fun c1=> ?_)
 ·have hij:i<j:= (by omega)
  obtain ⟨eb,eo,rfl,_⟩ :=h.2 (by omega)
  refine S8 ?_;refine a9 (kq J Tryz.underlying3 Tryz.underlying141 J (yJ _ (by omega) (by omega))) ?_;refine a9 (ur (q:=1) J J J (by decide) (by decide)) ?_;refine a9 ((kq J Tryz.underlying141 Tryz.underlying3 J (uv _ (by simp;omega) (by simp;omega))).as (congrArg _ (show(((i:Int) + (j:Int)) /2^ (Int.toNat 1)) = (((i+j) /2:Nat) :Int) by simp))) ?_;refine S7 ?_;refine a9 (jT (j:= (i+j) /2) J J J jt (by omega)) ?_;refine a9 (jj J J jl J (Vm (b:=eb) (o:=eo) h (by omega))) ?_;refine S1 ?_;refine a9 (vM uL J J J (fun w1 hs=>z8 (pt xs ((i+j) /2)) t w1 (hbd _ (by omega)) ht)) ?_;refine S2 ?_;refine cZ (fun c2=> ?_) (fun c2=> ?_)
  ·have hlow:py xs ((i+j) /2) <t:= (by have:=Nh.1 c2;simp only [pt] at this;omega)
   refine S7 ?_
   exact J8 hL1 (((i+j) /2+1,j)) (⟨show(i+j) /2+1≤j by omega,q2,fun k hk=>by have:=hm k ((i+j) /2) (by simp only at hk;omega) (by omega);omega,q4⟩) (by simp only;omega) ⟨vi (by omega),sz⟩ (u9 J)
  ·have hlow:t≤py xs ((i+j) /2) :=jfx.1 fun hh=>by have:=Nh.2 (show pt2 xs ((i+j) /2) - t<0 by unfold pt2;omega);unfold pt2 at this;simp only [pt] at c2;omega
   refine S6 ?_
   exact J8 hL1 ((i,(i+j) /2)) (⟨show i≤(i+j) /2 by omega,show(i+j) /2≤n by omega,q3,fun k h1 h2=>by have:=hm ((i+j) /2) k h1 (by omega);omega⟩) (by simp only;omega) ⟨J,sz⟩ (u9 J)
 ·have hij:i=j:= (by omega)
  subst hij
  have hbs:ZX xs t=i:=CB (by omega) q3 (fun hi=>q4 i (jeD _) (by omega))
  refine S12 ?_;refine cV 39 (fun g1=> ?_) (fun g1=> ?_)
  ·have hin:i<n:= (by omega)
   obtain ⟨eb,eo,rfl,_⟩ :=h.2 (by omega)
   refine S7 ?_;refine o9 (jT (j:=i) J J J jt (by omega)) ?_;refine h9 ?_;refine o9 (jj J J jl J (Vm (b:=eb) (o:=eo) h hin)) ?_;refine S3 ?_;refine o9 (vM uL J J J (fun w1 hs=>z8 (pt xs i) t w1 (hbd _ hin) ht)) ?_;refine S7 ?_;refine J6 J (.tmp J) (.tmp J) ?_
   intro w' hs
   exact⟨by rw [hbs,show decide (i<n) =true from decide_eq_true hin,jfe];rfl,hs.fin⟩
  ·refine S13 ?_;refine J6 J (.tmp J) (.tmp J) ?_
   intro w' hs
   exact⟨by rw [hbs,show decide (i<n) =false from decide_eq_false (by omega),jfp],hs.fin⟩
theorem jbb (b3:Nat) (a b:Pn) (w:World) (h:Pts w (some ⟨b3,0,none⟩) 2 [a,b]) :Calls Tryz.prog 116 #[.slice (some ⟨b3,0,none⟩) 2 2] w fun e w'=>e= .returned (.tuple #[W2 (min a.1 b.1) (min a.2 b.2),W2 (max a.1 b.1) (max a.2 b.2)])∧Over w w':=by
 have:=B3 _ 2 2 [a,b] w h (by decide) (by decide) (by decide)
 exact this
def wkS (a b p:Pn) :Sp:=if uf Wq (2*a.1) (2* (b.1- a.1)) (2*p.1- 1) =true then VJ (VJ Wq (2*a.1) (2* (b.1- a.1)) (2*p.1- 1)) (2*a.2) (2* (b.2- a.2)) (2*p.2- 1) else VJ Wq (2*a.1) (2* (b.1- a.1)) (2*p.1- 1)
theorem jdM {a b p:Pn} (h:WX a b p=true) :wkS a b p=JU a b p:=by
 obtain ⟨h1,h2⟩ :=NR a b p h
 rw [wkS,if_pos h1,h2]
theorem RB (a b p:Pn) (w:World) (ha:wU a.1 a.2=true) (hb:wU b.1 b.2=true) (hp:wU p.1 p.2=true) :
  Calls Tryz.prog 119 #[pV a,pV b,pV p] w fun e w'=>e= .returned (.tuple #[jcP (wkS a b p), .bool (WX a b p)])∧Over w w':=by
 have:=OG a.1 a.2 b.1 b.2 p.1 p.2 w ha hb hp
 rw [←FT] at this
 exact this
theorem yz {p:Pn} (h:wU p.1 p.2=true) :bd2 p:=by
 simp [wU,XA] at h
 exact⟨⟨by omega,by omega⟩,by omega,by omega⟩
theorem FN {a b p:Pn} (h:p.1<min a.1 b.1- 1) :UB a b p=false:=by unfold UB;rw [decide_eq_true h];rfl
theorem NO {a b p:Pn} (h:min a.1 b.1- 1≤p.1) :decide (p.1>max a.1 b.1+1) = !UB a b p:=by unfold UB;rw [decide_eq_false (jfx.2 h),Bool.false_or,Bool.not_not]
theorem Yq {a b p:Pn} (h1:min a.2 b.2- 1≤p.2) (h2:p.2≤max a.2 b.2+1) :Yp a b p=true:=by unfold Yp;rw [decide_eq_false (jfx.2 h1),decide_eq_false (jfx.2 h2)];rfl
theorem IW {a b p:Pn} (h:UB a b p=false) :KR a b p=false:=by simp [KR,h]
theorem IX {a b p:Pn} (h:Yp a b p=false) :KR a b p=false:=by simp [KR,h]
theorem xW {a b p:Pn} (h:WX a b p=false) :KR a b p=false:=by simp [KR,h]
theorem US {a b p:Pn} (h1:UB a b p=true) (h2:Yp a b p=true) (h3:WX a b p=true) :KR a b p=true:=by simp [KR,h1,h2,h3]
theorem Fh {a b:Pn} {ys:List Pn} {k:Nat} (hk:k<ys.length) (h:KR a b (pt ys k) =false) :KE a b (ys.take (k+1)) =KE a b (ys.take k) :=by
 rw [Xo hk,Xu,Gn (l:= [pt ys k]) (fun p hp=>by rw [jeT.1 hp];exact h),je8]
theorem Nx {a b:Pn} {ys:List Pn} {k:Nat} (hk:k<ys.length) (h:KR a b (pt ys k) =true) :KE a b (ys.take (k+1)) =KE a b (ys.take k) ++ [OK a b (pt ys k)] :=by
 rw [Xo hk,Xu,jaW h]
theorem jdn {xs:List Pn} {p:Pn} (h:p∈xs) :∃k,k<xs.length∧pt xs k=p:=by
 obtain ⟨k,hk,e⟩ :=jfm h
 exact⟨k,hk,by rw [←e,Kl hk]⟩
theorem H0 (xs:List Pn) (i k:Nat) :pt (xs.drop i) k=pt xs (i+k) :=by
 simp only [pt,px,py,List.getD_eq_getElem?_getD,List.getElem?_drop]
theorem B5:∀(xs:List Pn) (t:Int),ZX xs t≤xs.length∧(∀p∈xs.take (ZX xs t),p.2<t)∧(ZX xs t<xs.length→t≤py xs (ZX xs t))
 | [],t=>⟨jeD _,fun p hp=>by simp at hp,fun h=>absurd h (by simp [ZX])⟩
 | p::xs,t=>by
  obtain ⟨h1,h2,h3⟩ :=B5 xs t
  by_cases hp:p.2<t
  ·have e:ZX (p::xs) t=ZX xs t+1:=by
    unfold ZX
    rw [List.takeWhile_cons_of_pos (by simpa using hp),jeP]
   rw [e]
   refine⟨by simpa using h1,fun q hq=> ?_,fun h=> ?_⟩
   ·rw [List.take_succ_cons] at hq
    rcases je0.1 hq with rfl | hq
    ·exact hp
    ·exact h2 q hq
   ·have:=h3 (by simpa using h)
    have ek:py (p::xs) (ZX xs t+1) =py xs (ZX xs t) :=by simp [py]
    rw [ek]
    exact this
  ·have e:ZX (p::xs) t=0:=by
    unfold ZX
    rw [List.takeWhile_cons_of_neg (by simpa using hp)]
    rfl
   rw [e]
   exact⟨jeE _,fun q hq=>by simp at hq,fun _=>by have:py (p::xs) 0=p.2:=rfl;omega⟩
theorem jcs {a b:Pn} {xs:List Pn} :KE a b (xs.drop (ZX xs (min a.2 b.2- 1))) =KE a b xs:=by
 obtain ⟨h1,h2,h3⟩ :=B5 xs (min a.2 b.2- 1)
 conv=>rhs;rw [←jeU (ZX xs (min a.2 b.2- 1)) xs]
 rw [Xu,Gn (l:=xs.take _) (fun p hp=>IX (by have:=h2 p hp;simp [Yp,this])),jeL]
theorem jaX {a b:Pn} {ys:List Pn} {k:Nat} (hm:Lg ys) (hk:k<ys.length) (h:py ys k>max a.2 b.2+1) :KE a b (ys.take k) =KE a b ys:=by
 conv=>rhs;rw [←jeU k ys]
 rw [Xu,Gn (l:=ys.drop k) (fun p hp=>IX ?_),je8]
 obtain ⟨j,hj,rfl⟩ :=jdn hp
 rw [je2] at hj
 rw [H0]
 have:=hm k (k+j) (by omega) (by omega)
 have e: (pt ys (k+j)).2=py ys (k+j) :=rfl
 simp [Yp,e]
 omega
theorem Po {xs:List Pn} (h:Lg xs) (i:Nat) :Lg (xs.drop i) :=fun k j hkj hj=>by
 rw [je2] at hj
 have e:∀k,py (xs.drop i) k=py xs (i+k) :=fun k=>by have:=H0 xs i k;simp only [pt] at this;injection this
 rw [e,e]
 exact h _ _ (by omega) (by omega)
theorem jdi {a b:Pn} {xs:List Pn} (hm:Lg xs) {k:Nat} (hk:k< (xs.drop (ZX xs (min a.2 b.2- 1))).length) :min a.2 b.2- 1≤py (xs.drop (ZX xs (min a.2 b.2- 1))) k:=by
 obtain ⟨h1,h2,h3⟩ :=B5 xs (min a.2 b.2- 1)
 rw [je2] at hk
 have e:py (xs.drop (ZX xs (min a.2 b.2- 1))) k=py xs (ZX xs (min a.2 b.2- 1) +k) :=by have:=H0 xs (ZX xs (min a.2 b.2- 1)) k;simp only [pt] at this;injection this
 rw [e]
 have:=hm (ZX xs (min a.2 b.2- 1)) (ZX xs (min a.2 b.2- 1) +k) (by omega) (by omega)
 have:=h3 (by omega)
 omega
theorem SD {A:Option Addr} {n c i:Nat} (hi:i≤n) (hc:n≤c) :∃A',sliced A i n c 2= .slice A' (n- i) (c- i)∧∀ {w:World} {xs:List Pn},Pts w A n xs→Pts w A' (n- i) (xs.drop i) :=by
 by_cases h0:i<n
 ·cases A with
  | none=>exact⟨none,by simp [sliced],fun h=>absurd (h.2 (by omega)) (by rintro⟨b,o,e,_⟩;cases e)⟩
  | some p=>
   by_cases hp:p.spot=none
   ·obtain ⟨b,o,v⟩ :=p
    cases hp
    exact⟨_,wg hc hi,fun h=>h.dropT hi hc⟩
   ·refine⟨_,J,fun {w xs} h=> ?_⟩
    obtain ⟨b,o,e,_⟩ :=h.2 (by omega)
    injection e with e
    subst e
    exact absurd rfl hp
 ·obtain rfl:i=n:=by omega
  refine⟨_,J,fun {w xs} h=>⟨by rw [je2,h.1],fun h=>absurd h (by omega)⟩⟩
theorem jb5 {w0:Bs} {Rs:List Res} {k B T m g c j:Nat} {l:List Wy} {e:Wy} (hk:Rs[k]? =some (JP B T 5 m (l.flatMap Wy.cells) (some ⟨g,0,none⟩,c))) (he:l[j]? =some e) :∀w',St w0 Rs w'→∀q v,e.cells[q]? =some v→w'.cell? ⟨g,0+j*5+q,none⟩ =some v:=fun w' hs q v hv=>by
 have h:w'.ownsRow B T 5 (.slice (some ⟨g,0,none⟩) m c) m (l.flatMap Wy.cells) := (hs.all k _ hk).1
 have:=jaZ (tl:= []) he hv
 rw [Wp,je8] at this
 have:=h.cells rfl _ v this
 rw [Qz] at this
 rw [je3] at this⊢
 exact this
theorem Px {L:List Wy} {k:Nat} {e:Wy} (h:L[k]? =some e) : ((L.map fun e=> (e.x,e.y)).take k).flatMap j7++ [.int .i64 e.x, .int .i64 e.y] = ((L.map fun e=> (e.x,e.y)).take (k+1)).flatMap j7:=by
 obtain ⟨hk,rfl⟩ :=List.getElem?_eq_some_iff.1 h
 rw [jeS (by simpa using hk),jeQ]
 simp [j7]
theorem D3 (a b:Pn) (A:Option Addr) (n c:Nat) (hot:List Pn) (w:World) (h:Pts w A n hot) (ha:wU a.1 a.2=true) (hb:wU b.1 b.2=true) (hh:∀p∈hot,wU p.1 p.2=true) (hasc:Asc hot) (hc:n≤c) (hn:n≤1048576) :
  Calls Tryz.prog 78 #[pV a,pV b, .slice A n c] w fun e w'=>∃v,e= .returned v∧w'.ownsRow w.heap.size 54 2 v (Qj a b hot).length ((Qj a b hot).flatMap j7)∧Over w w':=by
 have hl:=h.1
 have hmono:=Cq hasc
 obtain ⟨hi1,hi2,hi3⟩ :=B5 hot (min a.2 b.2- 1)
 have ha2:bd2 a:=yz ha
 have hb2:bd2 b:=yz hb
 have hp2:∀p∈hot,bd2 p:=fun p hp=>yz (hh p hp)
 obtain ⟨⟨a1,a2⟩,a3,a4⟩ :=id ha2
 obtain ⟨⟨b1',b2'⟩,b3',b4'⟩ :=id hb2
 obtain ⟨i,hi⟩ :∃i,i=ZX hot (min a.2 b.2- 1) :=⟨_,rfl⟩
 obtain ⟨A',eA,hA'⟩ :=SD (A:=A) (n:=n) (c:=c) (i:=i) (by omega) hc
 obtain ⟨ys,hys⟩ :∃ys,ys=hot.drop i:=⟨_,rfl⟩
 have hyl:ys.length=n- i:=by rw [hys,je2,hl]
 have hyp:Pts w A' (n- i) ys:=hys▸hA' h
 have hym:Lg ys:=hys▸Po hmono i
 have hylow:∀k,k<ys.length→min a.2 b.2- 1≤py ys k:=fun k hk=>by subst hys hi;exact jdi hmono hk
 have hway:KE a b ys=KE a b hot:=by subst hys hi;exact jcs
 have hymem:∀k,k<ys.length→pt ys k∈hot:=fun k hk=>by rw [hys] at hk⊢;rw [H0,←Kl (by rw [je2] at hk;omega)];exact jeW _
 have hwl:=RC a b hot
 have hwl2:∀k,(KE a b (ys.take k)).length≤1048576:=fun k=>by have:=RC a b (ys.take k);rw [jeV] at this;omega
 have hwb:∀e∈KE a b hot,bd1 e.num e.den:=fun e he=>by
  obtain ⟨p,hp,rfl⟩ :=jaV he
  exact(Bq ha2 hb2 (hp2 p hp)).low
 have hpl: (Qj a b hot).length= (KE a b hot).length:=by rw [Qj,jeX,Qf]
 have hsl: (srt (Qr vS) (KE a b hot)).length= (KE a b hot).length:=Qf _
 refine jU (m:=93) (Tryz.func78) J J (lb J) ?_;refine S3 ?_;refine aX (fun b1=> ?_);refine N1 ?_;refine aX (fun b2=> ?_);refine N7 ?_;refine Jp J J (vZ J J) J (lb J) (fun b3=> ?_);refine n9 ?_;refine a9 (jH XV J J (fun w1 hs=>jbb _ a b w1 (E7 (k:=2) _ J J w1 hs))) ?_;refine S4 ?_;refine aL (fun b4=> ?_);refine N1 ?_;refine aL (fun b5=> ?_);refine N11 ?_;refine a9 (jH Kp J J (fun w1 hs=>XC A n c hot (min a.2 b.2- 1) w1 (h.over hs.fin) (fun p hp=> (hp2 p hp).wide) (by omega) hmono (by omega))) ?_;refine S9 ?_;refine kz (T:=155) (s:=5) ?_;refine N1 ?_;refine KZ (X:=Option Addr×Nat) (fun x=>True) (fun x=> [(11, .slice x.1 (KE a b hot).length x.2)]) (kK [6]) (fun x=> [.cel b1 54 [.int .i64 a.1, .int .i64 a.2], .cel b2 54 [.int .i64 b.1, .int .i64 b.2], .cel b3 54 [.int .i64 a.1, .int .i64 a.2, .int .i64 b.1, .int .i64 b.2], .cel b4 54 [.int .i64 (min a.1 b.1), .int .i64 (min a.2 b.2)], .cel b5 54 [.int .i64 (max a.1 b.1), .int .i64 (max a.2 b.2)],JP (Bs.N ⟨w,[]⟩) 155 5 (KE a b hot).length ((KE a b hot).flatMap Wy.cells) x]) (fun L h_0=> ?_) ?_
 ·refine S1 ?_
  rw [←hi]
  refine S3 ?_;refine a9 ((KL J J J jt (by omega)).as (eA)) ?_;refine S4 ?_;refine JI (X:=Nat×Option Addr×Nat) (fun x=>x.1≤n- i) (fun x=>n- i- x.1) (fun x=> [(11, .slice x.2.1 (KE a b (ys.take x.1)).length x.2.2),(38, .int .i64 (x.1:Int))]) (kK [3,4,6,7,8,36,37]) (fun x=> [.cel b1 54 [.int .i64 a.1, .int .i64 a.2], .cel b2 54 [.int .i64 b.1, .int .i64 b.2], .cel b3 54 [.int .i64 a.1, .int .i64 a.2, .int .i64 b.1, .int .i64 b.2], .cel b4 54 [.int .i64 (min a.1 b.1), .int .i64 (min a.2 b.2)], .cel b5 54 [.int .i64 (max a.1 b.1), .int .i64 (max a.2 b.2)],JP (Bs.N ⟨w,[]⟩) 155 5 (KE a b (ys.take x.1)).length ((KE a b (ys.take x.1)).flatMap Wy.cells) x.2]) (0,none,0) (jeE _) ⟨J,sz⟩ (fun _ h=>h) ?_
  intro⟨k,rA,rc⟩ hx L hL1
  refine v9 ?_;refine ji (by first | (dsimp only;done) | (dsimp only;rfl) | rfl) ?_
  have hk:k≤n- i:=hx
  refine S5 ?_;refine cZ (fun c1=> ?_) (fun c1=> ?_)
  ·have hlt:k<n- i:= (by omega)
   obtain ⟨eb,eo,rfl,_⟩ :=hyp.2 (by omega)
   have hpm:=hymem k (by omega)
   have hlo:=hylow k (by omega)
   obtain ⟨⟨p1,p2⟩,p3,p4⟩ :=hp2 _ hpm
   have hwk:=hwl2 k
   refine S7 ?_;refine a9 (jj J J jl J (Vm (b:=eb) (o:=eo) hyp hlt)) ?_;refine S1 ?_;refine aL (fun b6=> ?_);refine N13 ?_;refine cZ (fun c2=> ?_) (fun c2=> ?_)
   ·rw [jaX (a:=a) (b:=b) hym (by omega) (by omega),hway]
    refine S7 ?_
    exact JZ h_0 ((rA,rc)) (trivial) ⟨J,sz⟩ (fun _ h=>h.picks [0,1,2,3,4,5] (by decide))
   ·refine S3 ?_;refine qd [(61, .bool (!UB a b (pt ys k)))] (kK [3,4,6,7,8,36,37,11,38,39,40,41,13,42,43,44,45,46,47]) (fun L h_8=> ?_) ?_
    ·refine S8 ?_;refine cV 54 (fun g1=> ?_) (fun g1=> ?_)
     ·refine S8 ?_
      exact Jb h_8 ⟨vb (by rw [FN (p:=pt ys k) (by show px ys k<_;omega)];rfl),sz⟩ (u9 J)
     ·refine S14 ?_
      exact Jb h_8 ⟨vb (NO (p:=pt ys k) (by show _≤px ys k;omega)),sz⟩ (u9 J)
    ·refine v9 ?_;refine cZ (fun c3=> ?_) (fun c3=> ?_)
     ·refine S8 ?_
      exact j8 hL1 ((k+1,rA,rc)) ((show k+1≤n- i by omega)) (by simp only;omega) ⟨(by rw [Fh (by omega) (IW (by simpa using c3))];rfl),vi (by omega),sz⟩ (fun _ h=>h.upto ⟨J,J,J,J,J,by rw [Fh (by omega) (IW (by simpa using c3))],trivial⟩)
     ·refine S7 ?_;refine a9 (jH xJ J J (fun w1 hs=>RB a b (pt ys k) w1 ha hb (hh _ hpm))) ?_;refine S4 ?_;refine aL (fun b7=> ?_);refine N8 ?_;refine cZ (fun c4=> ?_) (fun c4=> ?_)
      ·rw [jdM c4]
       refine S5 ?_;refine a9 (JV J J (Yb J J)) ?_;refine S1 ?_;refine Jp J J (Un J) J (lb J) (fun b8=> ?_);refine N1 ?_;refine JL (k:=5) J Jt qN (by decide) J (by decide) J J J (fun w' hs=>q6 hs (k:=8) J J) (by simp [Value.oneCell']) (by unfold maxLen;omega) (by omega) (jeD _) (fun r1=> ?_);refine N8 ?_
       exact j8 hL1 ((k+1,r1)) ((show k+1≤n- i by omega)) (by simp only;omega) ⟨(by rw [Nx (by omega) (US (by simpa using c3) (Yq hlo (by show py ys k≤_;omega)) c4),jeC];rfl),vi (by omega),sz⟩ (fun _ h=>h.upto ⟨J,J,J,J,J,by rw [Nx (by omega) (US (by simpa using c3) (Yq hlo (by show py ys k≤_;omega)) c4),jeC,jeQ];rfl,trivial⟩)
      ·refine S7 ?_
       exact j8 hL1 ((k+1,rA,rc)) ((show k+1≤n- i by omega)) (by simp only;omega) ⟨(by rw [Fh (by omega) (xW c4)];rfl),vi (by omega),sz⟩ (fun _ h=>h.upto ⟨J,J,J,J,J,by rw [Fh (by omega) (xW c4)],trivial⟩)
  ·rw [jfb (by omega),hway]
   refine S5 ?_
   exact JZ h_0 ((rA,rc)) (trivial) ⟨J,sz⟩ (fun _ h=>h.picks [0,1,2,3,4,5] (by decide))
 ·rintro⟨sA,sc⟩ -
  refine v9 ?_;refine ji (by first | (dsimp only;done) | (dsimp only;rfl) | rfl) ?_;refine S4 ?_;refine QB (k:=5) (r':=JP 0 155 5 (KE a b hot).length ((srt (Qr vS) (KE a b hot)).flatMap Wy.cells) (sA,sc)) kL J J J (by decide) J (fun w1 hs=>SG (hs.all 5 _ J).1 J hwb (by omega)) (fun _ h=>h) J ?_;refine N4 ?_;refine kz (T:=54) (s:=2) ?_;refine N9 ?_;refine JI (X:=Nat×Option Addr×Nat) (fun y=>y.1≤(KE a b hot).length) (fun y=> (KE a b hot).length- y.1) (fun y=> [(16, .slice y.2.1 y.1 y.2.2),(82, .int .i64 (y.1:Int))]) (kK [6,80,81]) (fun y=> [.cel b1 54 [.int .i64 a.1, .int .i64 a.2], .cel b2 54 [.int .i64 b.1, .int .i64 b.2], .cel b3 54 [.int .i64 a.1, .int .i64 a.2, .int .i64 b.1, .int .i64 b.2], .cel b4 54 [.int .i64 (min a.1 b.1), .int .i64 (min a.2 b.2)], .cel b5 54 [.int .i64 (max a.1 b.1), .int .i64 (max a.2 b.2)],JP 0 155 5 (KE a b hot).length ((srt (Qr vS) (KE a b hot)).flatMap Wy.cells) (sA,sc),JP (Bs.N ⟨w,[]⟩) 54 2 y.1 (((Qj a b hot).take y.1).flatMap j7) y.2]) (0,none,0) (jeE _) ⟨J,sz⟩ (fun _ h=>h) ?_
  intro⟨j,qA,qc⟩ hy L hL2
  refine v9 ?_;refine ji (by first | (dsimp only;done) | (dsimp only;rfl) | rfl) ?_
  have hj:j≤(KE a b hot).length:=hy
  refine S5 ?_;refine cZ (fun c5=> ?_) (fun c5=> ?_)
  ·have hlt:j< (KE a b hot).length:= (by omega)
   refine QF (fun w hs=>K2 (k:=5) J hs (by omega)) ?_
   rintro⟨eg,rfl⟩
   obtain ⟨e,he⟩ :∃e,(srt (Qr vS) (KE a b hot))[j]? =some e:=⟨_,List.getElem?_eq_getElem (by omega)⟩
   refine S6 ?_;refine a9 (jT (j:=j) J J J Jt (by omega)) ?_;refine a9 (jj J J J7 J (jb5 (k:=5) J he)) ?_;refine S1 ?_;refine aL (fun b9=> ?_);refine N8 ?_;refine Jp J J (qP J) J (lb J) (fun b10=> ?_);refine N1 ?_;refine JL (k:=6) J jt jO (by decide) J (by decide) J J J (fun w' hs=>q6 hs (k:=8) J J) (by simp [Value.oneCell']) (by unfold maxLen;omega) (by omega) (jeD _) (fun r2=> ?_);refine N8 ?_
   exact j8 hL2 ((j+1,r2)) ((show j+1≤(KE a b hot).length by omega)) (by simp only;omega) ⟨J,vi (by omega),sz⟩ (fun _ h=>h.upto ⟨J,J,J,J,J,J,by rw [Qj,←Px he],trivial⟩)
  ·have hje:j= (KE a b hot).length:= (by omega)
   subst hje
   rw [jfb (by omega)]
   refine S11 ?_;refine jL J (.tmp J) ?_
   intro w' hs
   have hr:=hs.all 6 _ rfl
   exact⟨_,rfl,KS (by rw [hpl];exact hr.1) (fun b hb=> (hr.2.1 b hb).elim id (fun h=>by cases h)),hs.fin⟩
end Go.Proofs.YtkagkgjjfdkoaaaGreat
