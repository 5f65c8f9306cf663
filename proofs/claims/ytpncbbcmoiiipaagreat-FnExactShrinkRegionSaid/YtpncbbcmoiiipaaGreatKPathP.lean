import Derived.Test.YtpncbbcmoiiipaaGreatKWay
import Derived.Test.YtpncbbcmoiiipaaGreatKPix
import Derived.Test.YtpncbbcmoiiipaaGreatKHot
import Derived.Test.YtpncbbcmoiiipaaGreatKNetS
import Derived.Test.YtpncbbcmoiiipaaGreatKBounds
import Derived.Test.YtpncbbcmoiiipaaGreatKSnapped
set_option linter.unusedVariables false
set_option linter.unusedSimpArgs false
namespace Go.Proofs.YtpncbbcmoiiipaaGreat
open Go Go.RowKit
def jce (x y:Wy) :Prop:=x.num*y.den<y.num*x.den∨(x.num*y.den=y.num*x.den∧x.cl=true∧y.cl=false)
def VF (x y:Wy) :Int:=if wt (x.num*y.den- y.num*x.den)≠0 then wt (x.num*y.den- y.num*x.den) else if(x.cl&& !y.cl) =true then-1 else if(!x.cl&&y.cl) =true then 1 else 0
theorem Dp {x y:Wy} :VF x y<0↔jce x y:=by
 unfold VF jce
 have k:=vV (x.num*y.den- y.num*x.den)
 split
 ·omega
 ·cases x.cl<;>cases y.cl<;>simp<;>omega
theorem C6:Weak (QI VF) :=by
 have e:∀x y,QI VF x y=true↔jce x y:=fun x y=>by rw [QI,decide_eq_true_eq,Dp]
 have e':∀x y,QI VF x y=false↔¬jce x y:=fun x y=>by rw [←e x y,Bool.not_eq_true]
 refine⟨fun a b h=> ?_,fun a b c h1 h2=> ?_⟩
 ·rw [e'] ;rw [e] at h
  rintro(h2 |⟨h2,h3,h4⟩)
  ·rcases h with h |⟨h,_,_⟩ <;>omega
  ·rcases h with h |⟨h,h5,h6⟩
   ·omega
   ·rw [h5] at h4;cases h4
 ·rw [e'] at h1 h2⊢
  have b1:b.num*a.den≤a.num*b.den:=jjr.1 fun h=>h1 (.inl h)
  have b2:c.num*b.den≤b.num*c.den:=jjr.1 fun h=>h2 (.inl h)
  rintro(h |⟨h,h3,h4⟩)
  ·have:=vq b.pos c.pos a.pos b2 b1
   omega
  ·have g1:¬b.num*a.den<a.num*b.den:=fun h'=>by
    have:=KS b.pos c.pos a.pos b2 h'
    omega
   have g2:¬c.num*b.den<b.num*c.den:=fun h'=>by
    have:=wd b.pos c.pos a.pos h' b1
    omega
   cases hb:b.cl with
   | true=>exact h2 (.inr ⟨by omega,hb,h4⟩)
   | false=>exact h1 (.inr ⟨by omega,h3,hb⟩)
def JZ (a b p:Pn) :Sp:=J7 (J7 W6 (QW (2*a.1) (2* (b.1- a.1)) (2*p.1- 1))) (QW (2*a.2) (2* (b.2- a.2)) (2*p.2- 1))
def Ve (a b p:Pn) :Bool:=Xr (2*a.1) (2* (b.1- a.1)) (2*p.1- 1) (2*a.2) (2* (b.2- a.2)) (2*p.2- 1)
theorem KY (a b p:Pn) :0< (JZ a b p).ld∧0< (JZ a b p).hd:=K0 (K0 Ur (kZ _ _ _)) (kZ _ _ _)
def Dd (a b p:Pn) :Wy:=⟨p.1,p.2,(JZ a b p).ln,(JZ a b p).ld,(JZ a b p).lc,(KY a b p).1⟩
def yi (a b p:Pn) :Bool:= !(decide (p.1<min a.1 b.1- 1) || decide (p.1>max a.1 b.1+1))
def za (a b p:Pn) :Bool:= !(decide (p.2<min a.2 b.2- 1) || decide (p.2>max a.2 b.2+1))
def KJ (a b p:Pn) :Bool:=yi a b p&&za a b p&&Ve a b p
def vj (a b:Pn) (hot:List Pn) :List Wy:= (hot.filter (KJ a b)).map (Dd a b)
def qD (a b:Pn) (hot:List Pn) :List Pn:= (kW (QI VF) (vj a b hot)).map fun e=> (e.x,e.y)
theorem Eu (a b p:Pn) (hi:Ve a b p=true) :Ud W6 (2*a.1) (2* (b.1- a.1)) (2*p.1- 1) =true∧wo (wo W6 (2*a.1) (2* (b.1- a.1)) (2*p.1- 1)) (2*a.2) (2* (b.2- a.2)) (2*p.2- 1) =JZ a b p:=by
 have:=RD (2*a.1) (2* (b.1- a.1)) (2*p.1- 1) (2*a.2) (2* (b.2- a.2)) (2*p.2- 1)
 unfold Ve at hi
 rw [hi] at this
 have h2:= (jig _ _▸this.symm:_∧_)
 refine⟨h2.1,?_⟩
 rw [MM O4,MM Fp]
 rfl
theorem DZ {a b p:Pn} (ha:bd2 a) (hb:bd2 b) (hp:bd2 p) :bdP (JZ a b p) :=by
 obtain ⟨⟨a1,a2⟩,a3,a4⟩ :=ha
 obtain ⟨⟨b1,b2⟩,b3,b4⟩ :=hb
 obtain ⟨⟨p1,p2⟩,p3,p4⟩ :=hp
 have hx:=ZI (2*a.1) (2* (b.1- a.1)) (2*p.1- 1) Om Om Om Om Om Om
 have hy:=ZI (2*a.2) (2* (b.2- a.2)) (2*p.2- 1) Om Om Om Om Om Om
 exact Wt (Wd (Wt (Wd O3 hx) hx) hy) hy
theorem Gr (a b:Pn) (l m:List Pn) :vj a b (l++m) =vj a b l++vj a b m:=by simp [vj,jjT]
theorem HK {a b:Pn} {l:List Pn} (h:∀p∈l,KJ a b p=false) :vj a b l= [] :=by
 unfold vj
 rw [List.filter_eq_nil_iff.2 fun p hp=>by rw [h p hp];decide]
 rfl
theorem jdM {a b p:Pn} (h:KJ a b p=true) :vj a b [p] = [Dd a b p] :=by simp [vj,h]
theorem Gh {xs:List Pn} {k:Nat} (h:k<xs.length) :xs.take (k+1) =xs.take k++ [pt xs k] :=by
 rw [jin h,Kk h]
theorem TD (a b:Pn) (l:List Pn) : (vj a b l).length≤l.length:=by
 unfold vj
 rw [jit]
 exact jjV _ _
theorem jdL {a b:Pn} {l:List Pn} {e:Wy} (h:e∈vj a b l) :∃p∈l,e=Dd a b p:=by
 obtain ⟨p,hp,rfl⟩ :=jip.1 h
 exact⟨p,(ji6.1 hp).1,rfl⟩
end Go.Proofs.YtpncbbcmoiiipaaGreat
namespace Go.Proofs.YtpncbbcmoiiipaaGreat
open Go Go.RowKit
set_option maxRecDepth 100000
set_option maxHeartbeats 4000000
theorem B4 (x y:Wy) (w:World) (hx:bd1 x.num x.den) (hy:bd1 y.num y.den) :Calls Tryz.prog 216 #[x.val,y.val] w fun e w'=>e= .returned (.int .i64 (VF x y))∧Over w w':=by
 refine Jh (m:=34) (Tryz.func216) J J (lb J) ?_;refine S3 ?_;refine aX (fun b1=> ?_);refine N1 ?_;refine aX (fun b2=> ?_);refine N9 ?_;refine a9 (jT vr J J (fun w1 hs=>jkf _ _ _ _ _ _ w1 hx hy)) ?_;refine S7 ?_;refine cZ (fun c1=> ?_) (fun c1=> ?_)
 ·refine S7 ?_;refine jM J (.tmp J) ?_
  intro w' hs
  exact⟨by rw [VF,if_pos c1],hs.fin⟩
 ·refine S10 ?_;refine cV 18 (fun g1=> ?_) (fun g1=> ?_)
  ·refine S11 ?_;refine cZ (fun c2=> ?_) (fun c2=> ?_)
   ·refine S7 ?_;refine jM J (.tmp J) ?_
    intro w' hs
    exact⟨by unfold VF;rw [if_neg (fun h=>h c1)];simp_all,hs.fin⟩
   ·refine S7 ?_;refine cV 29 (fun g2=> ?_) (fun g2=> ?_)
    ·refine S9 ?_;refine cZ (fun c3=> ?_) (fun c3=> ?_)
     ·refine S7 ?_;refine jM J (.tmp J) ?_
      intro w' hs
      exact⟨by unfold VF;rw [if_neg (fun h=>h c1)];simp_all,hs.fin⟩
     ·refine S8 ?_;refine jM J (.tmp J) ?_
      intro w' hs
      exact⟨by unfold VF;rw [if_neg (fun h=>h c1)];simp_all,hs.fin⟩
    ·refine S15 ?_;refine jM J (.tmp J) ?_
     intro w' hs
     exact⟨by unfold VF;rw [if_neg (fun h=>h c1)];simp_all,hs.fin⟩
  ·refine S15 ?_;refine cV 29 (fun g3=> ?_) (fun g3=> ?_)
   ·refine S9 ?_;refine cZ (fun c4=> ?_) (fun c4=> ?_)
    ·refine S7 ?_;refine jM J (.tmp J) ?_
     intro w' hs
     exact⟨by unfold VF;rw [if_neg (fun h=>h c1)];simp_all,hs.fin⟩
    ·refine S8 ?_;refine jM J (.tmp J) ?_
     intro w' hs
     exact⟨by unfold VF;rw [if_neg (fun h=>h c1)];simp_all,hs.fin⟩
   ·refine S15 ?_;refine jM J (.tmp J) ?_
    intro w' hs
    exact⟨by unfold VF;rw [if_neg (fun h=>h c1)];simp_all,hs.fin⟩
theorem NQ {w:World} {B n:Nat} {l:List Wy} {x:Option Addr×Nat} (hrow: (JY B 238 5 n (l.flatMap Wy.cells) x).P w) (hl:l.length=n) (hb:∀e∈l,bd1 e.num e.den) (hn:n≤1099511627776) :
  Calls Tryz.prog 215 #[.slice x.1 n x.2, .func (.func 216) #[] #[]] w fun e w'=>e= .returned (.tuple #[])∧Wrs (JY B 238 5 n (l.flatMap Wy.cells) x).F w w'∧(JY 0 238 5 n ((kW (QI VF) l).flatMap Wy.cells) x).P w':=by
 have hrow':w.ownsRow B 238 5 (.slice x.1 n x.2) n (l.flatMap Wy.cells) :=hrow
 rcases hrow'.2 with⟨e,e2⟩ |⟨g,cap,cur,e,hbg,hg,hcap,hmax,hsz,htk⟩
 ·subst e2
  obtain rfl:l= [] :=jiQ hl
  refine(NS x.1 x.2 _ w).mono ?_
  rintro e' w' ⟨rfl,hO⟩
  refine⟨J,Wrs.of hO,?_⟩
  show w'.ownsRow 0 238 5 (.slice x.1 0 x.2) 0 _
  rw [e]
  exact World.ownsRow_nil _ _ _ _
 ·injection e with e1 e3 e4
  have hF:∀b,b=g→(JY B 238 5 n (l.flatMap Wy.cells) x).F b:=by
   rintro b rfl
   show Value.ownBlock (.slice x.1 n x.2) =some _
   rw [e1]
   rfl
  have hcl:cur.toList.length=cap*5:=by simp [hsz]
  have hcur:cur= (W2 (l++ []) (cur.toList.drop (n*5))).toArray:=by
   rw [jiG,W2,←htk,jiw,jjy]
  have hC:CmpW w g (·∈l) VF:=⟨fun u hu v hv w' ho=>B4 u v w' (hb u hu) (hb v hv),C6⟩
  have:=jfs g 238 (cur.toList.drop (n*5)) l [] n x.2 _ _ w hC (by rw [←hcur];exact hg) hl hn (fun u hu=>hu)
  rw [e1]
  refine this.mono ?_
  rintro e' w' ⟨rfl,hw,hh⟩
  refine⟨J,⟨hw.os,hw.tape,hw.output,hw.size,fun c hc hnc=>hw.block c hc (fun ec=>hnc (hF c ec))⟩,?_⟩
  rw [jiG] at hh
  have hml: ((kW (QI VF) l).flatMap Wy.cells).length=n*5:=by rw [Gy,Qu,hl]
  refine⟨hml, .inr ⟨g,x.2,_,by rw [e1],jii _,hh,by rw [e4];exact hcap,by rw [e4];exact hmax,?_,?_⟩⟩
  ·rw [jje,W2,jif,hml,jiI,hcl,e4]
   omega
  ·rw [jjj,W2,List.take_append_of_le_length Om,jiK Om]
theorem Z7 (p:Pn) (t:Int) (w:World) (hp:ZQ p) (ht: -1152921504606846976≤t∧t≤1152921504606846976) :Calls Tryz.prog 213 #[pV p, .int .i64 t] w fun e w'=>e= .returned (.int .i64 (wt (p.2- t)))∧Over w w':=by
 obtain ⟨⟨p1,p2⟩,p3,p4⟩ :=hp
 refine Jh (m:=10) (Tryz.func213) J J (lb J) ?_;refine S3 ?_;refine aX (fun b1=> ?_);refine N8 ?_;refine a9 (jT Q6 J J (fun w h=>Calls.still (Kv _ w))) ?_;refine S3 ?_;refine jM J (.tmp J) ?_
 intro w' hs
 exact⟨rfl,hs.fin⟩
def xY (xs:List Pn) (t:Int) :Nat:= (xs.takeWhile fun p=>decide (p.2<t)).length
theorem jbe:∀ {xs:List Pn} {t:Int} {i:Nat},i≤xs.length→(∀k,k<i→py xs k<t)→(i<xs.length→t≤py xs i)→xY xs t=i
 | [],_,i,h,_,_=>by simp at h;subst h;rfl
 | p::xs,t,0,_,_,h3=>by
  have:=h3 (by simp)
  have e:py (p::xs) 0=p.2:=rfl
  unfold xY
  rw [List.takeWhile_cons_of_neg (by simp;omega)]
  rfl
 | p::xs,t,i+1,h1,h2,h3=>by
  have e:py (p::xs) 0=p.2:=rfl
  have h0:=h2 0 Om
  have ek:∀k,py (p::xs) (k+1) =py xs k:=fun k=>by simp [py]
  unfold xY
  rw [List.takeWhile_cons_of_pos (by simp;omega),jim]
  have:=jbe (xs:=xs) (t:=t) (i:=i) (by simpa using h1) (fun k hk=>by have:=h2 (k+1) Om;rwa [ek] at this) (fun hi=>by have:=h3 (by simpa using hi);rwa [ek] at this)
  unfold xY at this
  omega
def pt2 (xs:List Pn) (k:Nat) :Int:=py xs k
def MA (xs:List Pn) :Prop:=∀k j,k≤j→j<xs.length→py xs k≤py xs j
theorem jaX {xs:List Pn} (h:Asc xs) :MA xs:=fun k j hkj hj=>by
 rcases jjp hkj with h1 | rfl
 ·have:=jjl.1 h k j Om hj h1
  rw [Kk,Kk] at this
  unfold vh pt at this
  simp only at this
  omega
 ·exact Int.le_refl _
theorem GA (A:Option Addr) (n c:Nat) (xs:List Pn) (t:Int) (w:World) (h:Pts w A n xs) (hx:∀p∈xs,ZQ p) (ht: -1152921504606846976≤t∧t≤1152921504606846976) (hm:MA xs) (hn:n≤1099511627776) :
  Calls Tryz.prog 212 #[.slice A n c, .int .i64 t, .func (.func 213) #[] #[]] w fun e w'=>e= .returned (.tuple #[.int .i64 ((xY xs t:Nat) :Int), .bool (decide (xY xs t<n) &&decide (wt (py xs (xY xs t) - t) =0))])∧Over w w':=by
 have hl:=h.1
 have hbd:∀k,k<n→ZQ (pt xs k) :=fun k hk=>hx _ (by rw [←Kk Om];exact jis _)
 refine Jh (m:=49) (Tryz.func212) J J (lb J) ?_;refine S19 ?_;refine qz (X:=Nat×Nat) (fun q=>q.1≤q.2∧q.2≤n∧(∀k,k<q.1→py xs k<t)∧(∀k,q.2≤k→k<n→t≤py xs k)) (fun q=>q.2- q.1) (fun q=> [(9, .int .i64 (q.1:Int)),(10, .int .i64 (q.2:Int))]) (kK [0,1,2,6,7,8]) (0,n) (⟨jii _,jih _,fun k hk=>absurd hk (by simp),fun k h1 h2=>absurd (jiu h2 h1) (Nat.lt_irrefl _)⟩) ⟨J,sz⟩ ?_
 intro⟨i,j⟩ hq L hL1
 refine v9 ?_
 obtain ⟨q1,q2,q3,q4⟩ :i≤j∧j≤n∧(∀k,k<i→py xs k<t)∧(∀k,j≤k→k<n→t≤py xs k) :=hq
 refine S7 ?_;refine cZ (fun c1=> ?_) (fun c1=> ?_)
 ·have hij:i<j:=Om
  obtain ⟨eb,eo,rfl,_⟩ :=h.2 Om
  refine S8 ?_;refine a9 (QJ J Tryz.underlying3 Tryz.underlying206 J (Uc _ Om Om)) ?_;refine a9 (WQ (q:=1) J J J Dc Dc) ?_;refine a9 ((QJ J Tryz.underlying206 Tryz.underlying3 J (wX _ (by simp;omega) (by simp;omega))).as (congrArg _ (show(((i:Int) + (j:Int)) /2^ (Int.toNat 1)) = (((i+j) /2:Nat) :Int) by simp))) ?_;refine S7 ?_;refine a9 (jN (j:= (i+j) /2) J J J jw Om) ?_;refine a9 (jk J J jj J (wL (b:=eb) (o:=eo) h Om)) ?_;refine S1 ?_;refine a9 (Vw UK J J J (fun w1 hs=>Z7 (pt xs ((i+j) /2)) t w1 (hbd _ Om) ht)) ?_;refine S2 ?_;refine cZ (fun c2=> ?_) (fun c2=> ?_)
  ·have hlow:py xs ((i+j) /2) <t:= (by have:=CM.1 c2;simp only [pt] at this;omega)
   refine S7 ?_
   exact qi hL1 (((i+j) /2+1,j)) (⟨show(i+j) /2+1≤j by omega,q2,fun k hk=>by have:=hm k ((i+j) /2) (by simp only at hk;omega) Om;omega,q4⟩) (by simp only;omega) ⟨vi Om,sz⟩ (u9 J)
  ·have hlow:t≤py xs ((i+j) /2) :=jjr.1 fun hh=>by have:=CM.2 (show pt2 xs ((i+j) /2) - t<0 by unfold pt2;omega);unfold pt2 at this;simp only [pt] at c2;omega
   refine S6 ?_
   exact qi hL1 ((i,(i+j) /2)) (⟨show i≤(i+j) /2 by omega,show(i+j) /2≤n by omega,q3,fun k h1 h2=>by have:=hm ((i+j) /2) k h1 Om;omega⟩) (by simp only;omega) ⟨J,sz⟩ (u9 J)
 ·have hij:i=j:=Om
  subst hij
  have hbs:xY xs t=i:=jbe Om q3 (fun hi=>q4 i (jih _) Om)
  refine S12 ?_;refine cV 39 (fun g1=> ?_) (fun g1=> ?_)
  ·have hin:i<n:=Om
   obtain ⟨eb,eo,rfl,_⟩ :=h.2 Om
   refine S7 ?_;refine o9 (jN (j:=i) J J J jw Om) ?_;refine h9 ?_;refine o9 (jk J J jj J (wL (b:=eb) (o:=eo) h hin)) ?_;refine S3 ?_;refine o9 (Vw UK J J J (fun w1 hs=>Z7 (pt xs i) t w1 (hbd _ hin) ht)) ?_;refine S7 ?_;refine qv J (.tmp J) (.tmp J) ?_
   intro w' hs
   exact⟨by rw [hbs,show decide (i<n) =true from decide_eq_true hin,jix];rfl,hs.fin⟩
  ·refine S13 ?_;refine qv J (.tmp J) (.tmp J) ?_
   intro w' hs
   exact⟨by rw [hbs,show decide (i<n) =false from decide_eq_false Om,jiC],hs.fin⟩
theorem jd6 (b3:Nat) (a b:Pn) (w:World) (h:Pts w (some ⟨b3,0,none⟩) 2 [a,b]) :Calls Tryz.prog 211 #[.slice (some ⟨b3,0,none⟩) 2 2] w fun e w'=>e= .returned (.tuple #[uS (min a.1 b.1) (min a.2 b.2),uS (max a.1 b.1) (max a.2 b.2)])∧Over w w':=by
 have:=Fy _ 2 2 [a,b] w h Dc Dc Dc
 exact this
def wkS (a b p:Pn) :Sp:=if Ud W6 (2*a.1) (2* (b.1- a.1)) (2*p.1- 1) =true then wo (wo W6 (2*a.1) (2* (b.1- a.1)) (2*p.1- 1)) (2*a.2) (2* (b.2- a.2)) (2*p.2- 1) else wo W6 (2*a.1) (2* (b.1- a.1)) (2*p.1- 1)
theorem jhg {a b p:Pn} (h:Ve a b p=true) :wkS a b p=JZ a b p:=by
 obtain ⟨h1,h2⟩ :=Eu a b p h
 rw [wkS,if_pos h1,h2]
theorem TC (a b p:Pn) (w:World) (ha:wR a.1 a.2=true) (hb:wR b.1 b.2=true) (hp:wR p.1 p.2=true) :
  Calls Tryz.prog 214 #[pV a,pV b,pV p] w fun e w'=>e= .returned (.tuple #[jf6 (wkS a b p), .bool (Ve a b p)])∧Over w w':=by
 have:=B7 a.1 a.2 b.1 b.2 p.1 p.2 w ha hb hp
 rw [←RD] at this
 exact this
theorem Yy {p:Pn} (h:wR p.1 p.2=true) :bd2 p:=by
 simp [wR,xZ] at h
 exact⟨⟨by omega,by omega⟩,by omega,by omega⟩
theorem Rw {a b p:Pn} (h:p.1<min a.1 b.1- 1) :yi a b p=false:=by unfold yi;rw [decide_eq_true h];rfl
theorem En {a b p:Pn} (h:min a.1 b.1- 1≤p.1) :decide (p.1>max a.1 b.1+1) = !yi a b p:=by unfold yi;rw [decide_eq_false (jjr.2 h),Bool.false_or,Bool.not_not]
theorem zC {a b p:Pn} (h1:min a.2 b.2- 1≤p.2) (h2:p.2≤max a.2 b.2+1) :za a b p=true:=by unfold za;rw [decide_eq_false (jjr.2 h1),decide_eq_false (jjr.2 h2)];rfl
theorem SN {a b p:Pn} (h:yi a b p=false) :KJ a b p=false:=by simp [KJ,h]
theorem SO {a b p:Pn} (h:za a b p=false) :KJ a b p=false:=by simp [KJ,h]
theorem XX {a b p:Pn} (h:Ve a b p=false) :KJ a b p=false:=by simp [KJ,h]
theorem yW {a b p:Pn} (h1:yi a b p=true) (h2:za a b p=true) (h3:Ve a b p=true) :KJ a b p=true:=by simp [KJ,h1,h2,h3]
theorem IV {a b:Pn} {ys:List Pn} {k:Nat} (hk:k<ys.length) (h:KJ a b (pt ys k) =false) :vj a b (ys.take (k+1)) =vj a b (ys.take k) :=by
 rw [Gh hk,Gr,HK (l:= [pt ys k]) (fun p hp=>by rw [jik.1 hp];exact h),jiG]
theorem C4 {a b:Pn} {ys:List Pn} {k:Nat} (hk:k<ys.length) (h:KJ a b (pt ys k) =true) :vj a b (ys.take (k+1)) =vj a b (ys.take k) ++ [Dd a b (pt ys k)] :=by
 rw [Gh hk,Gr,jdM h]
theorem jgG {xs:List Pn} {p:Pn} (h:p∈xs) :∃k,k<xs.length∧pt xs k=p:=by
 obtain ⟨k,hk,e⟩ :=ji0 h
 exact⟨k,hk,by rw [←e,Kk hk]⟩
theorem Mn (xs:List Pn) (i k:Nat) :pt (xs.drop i) k=pt xs (i+k) :=by
 simp only [pt,px,py,List.getD_eq_getElem?_getD,List.getElem?_drop]
theorem FA:∀(xs:List Pn) (t:Int),xY xs t≤xs.length∧(∀p∈xs.take (xY xs t),p.2<t)∧(xY xs t<xs.length→t≤py xs (xY xs t))
 | [],t=>⟨jih _,fun p hp=>by simp at hp,fun h=>absurd h (by simp [xY])⟩
 | p::xs,t=>by
  obtain ⟨h1,h2,h3⟩ :=FA xs t
  by_cases hp:p.2<t
  ·have e:xY (p::xs) t=xY xs t+1:=by
    unfold xY
    rw [List.takeWhile_cons_of_pos (by simpa using hp),jim]
   rw [e]
   refine⟨by simpa using h1,fun q hq=> ?_,fun h=> ?_⟩
   ·rw [List.take_succ_cons] at hq
    rcases jir.1 hq with rfl | hq
    ·exact hp
    ·exact h2 q hq
   ·have:=h3 (by simpa using h)
    have ek:py (p::xs) (xY xs t+1) =py xs (xY xs t) :=by simp [py]
    rw [ek]
    exact this
  ·have e:xY (p::xs) t=0:=by
    unfold xY
    rw [List.takeWhile_cons_of_neg (by simpa using hp)]
    rfl
   rw [e]
   exact⟨jii _,fun q hq=>by simp at hq,fun _=>by have:py (p::xs) 0=p.2:=rfl;omega⟩
theorem jfH {a b:Pn} {xs:List Pn} :vj a b (xs.drop (xY xs (min a.2 b.2- 1))) =vj a b xs:=by
 obtain ⟨h1,h2,h3⟩ :=FA xs (min a.2 b.2- 1)
 conv=>rhs;rw [←jiw (xY xs (min a.2 b.2- 1)) xs]
 rw [Gr,HK (l:=xs.take _) (fun p hp=>SO (by have:=h2 p hp;simp [za,this])),jiW]
theorem jdN {a b:Pn} {ys:List Pn} {k:Nat} (hm:MA ys) (hk:k<ys.length) (h:py ys k>max a.2 b.2+1) :vj a b (ys.take k) =vj a b ys:=by
 conv=>rhs;rw [←jiw k ys]
 rw [Gr,HK (l:=ys.drop k) (fun p hp=>SO ?_),jiG]
 obtain ⟨j,hj,rfl⟩ :=jgG hp
 rw [jiI] at hj
 rw [Mn]
 have:=hm k (k+j) Om Om
 have e: (pt ys (k+j)).2=py ys (k+j) :=rfl
 simp [za,e]
 omega
theorem ET {xs:List Pn} (h:MA xs) (i:Nat) :MA (xs.drop i) :=fun k j hkj hj=>by
 rw [jiI] at hj
 have e:∀k,py (xs.drop i) k=py xs (i+k) :=fun k=>by have:=Mn xs i k;simp only [pt] at this;injection this
 rw [e,e]
 exact h _ _ Om Om
theorem jgA {a b:Pn} {xs:List Pn} (hm:MA xs) {k:Nat} (hk:k< (xs.drop (xY xs (min a.2 b.2- 1))).length) :min a.2 b.2- 1≤py (xs.drop (xY xs (min a.2 b.2- 1))) k:=by
 obtain ⟨h1,h2,h3⟩ :=FA xs (min a.2 b.2- 1)
 rw [jiI] at hk
 have e:py (xs.drop (xY xs (min a.2 b.2- 1))) k=py xs (xY xs (min a.2 b.2- 1) +k) :=by have:=Mn xs (xY xs (min a.2 b.2- 1)) k;simp only [pt] at this;injection this
 rw [e]
 have:=hm (xY xs (min a.2 b.2- 1)) (xY xs (min a.2 b.2- 1) +k) Om Om
 have:=h3 Om
 omega
theorem NN {A:Option Addr} {n c i:Nat} (hi:i≤n) (hc:n≤c) :∃A',sliced A i n c 2= .slice A' (n- i) (c- i)∧∀ {w:World} {xs:List Pn},Pts w A n xs→Pts w A' (n- i) (xs.drop i) :=by
 by_cases h0:i<n
 ·cases A with
  | none=>exact⟨none,by simp [sliced],fun h=>absurd (h.2 Om) (by rintro⟨b,o,e,_⟩;cases e)⟩
  | some p=>
   by_cases hp:p.spot=none
   ·obtain ⟨b,o,v⟩ :=p
    cases hp
    exact⟨_,Uq hc hi,fun h=>h.dropT hi hc⟩
   ·refine⟨_,J,fun {w xs} h=> ?_⟩
    obtain ⟨b,o,e,_⟩ :=h.2 Om
    injection e with e
    subst e
    exact absurd rfl hp
 ·obtain rfl:i=n:=by omega
  refine⟨_,J,fun {w xs} h=>⟨by rw [jiI,h.1],fun h=>absurd h Om⟩⟩
theorem jfi {w0:Bs} {Rs:List Res} {k B T m g c j:Nat} {l:List Wy} {e:Wy} (hk:Rs[k]? =some (JY B T 5 m (l.flatMap Wy.cells) (some ⟨g,0,none⟩,c))) (he:l[j]? =some e) :∀w',St w0 Rs w'→∀q v,e.cells[q]? =some v→w'.cell? ⟨g,0+j*5+q,none⟩ =some v:=fun w' hs q v hv=>by
 have h:w'.ownsRow B T 5 (.slice (some ⟨g,0,none⟩) m c) m (l.flatMap Wy.cells) := (hs.all k _ hk).1
 have:=jdQ (tl:= []) he hv
 rw [W2,jiG] at this
 have:=h.cells rfl _ v this
 rw [Q1] at this
 rw [jiL] at this⊢
 exact this
theorem E6 {L:List Wy} {k:Nat} {e:Wy} (h:L[k]? =some e) : ((L.map fun e=> (e.x,e.y)).take k).flatMap Js++ [.int .i64 e.x, .int .i64 e.y] = ((L.map fun e=> (e.x,e.y)).take (k+1)).flatMap Js:=by
 obtain ⟨hk,rfl⟩ :=List.getElem?_eq_some_iff.1 h
 rw [jin (by simpa using hk),jio]
 simp [Js]
theorem ID (a b:Pn) (A:Option Addr) (n c:Nat) (hot:List Pn) (w:World) (h:Pts w A n hot) (ha:wR a.1 a.2=true) (hb:wR b.1 b.2=true) (hh:∀p∈hot,wR p.1 p.2=true) (hasc:Asc hot) (hc:n≤c) (hn:n≤1048576) :
  Calls Tryz.prog 168 #[pV a,pV b, .slice A n c] w fun e w'=>∃v,e= .returned v∧w'.ownsRow w.heap.size 56 2 v (qD a b hot).length ((qD a b hot).flatMap Js)∧Over w w':=by
 have hl:=h.1
 have hmono:=jaX hasc
 obtain ⟨hi1,hi2,hi3⟩ :=FA hot (min a.2 b.2- 1)
 have ha2:bd2 a:=Yy ha
 have hb2:bd2 b:=Yy hb
 have hp2:∀p∈hot,bd2 p:=fun p hp=>Yy (hh p hp)
 obtain ⟨⟨a1,a2⟩,a3,a4⟩ :=id ha2
 obtain ⟨⟨b1',b2'⟩,b3',b4'⟩ :=id hb2
 obtain ⟨i,hi⟩ :∃i,i=xY hot (min a.2 b.2- 1) :=⟨_,rfl⟩
 obtain ⟨A',eA,hA'⟩ :=NN (A:=A) (n:=n) (c:=c) (i:=i) Om hc
 obtain ⟨ys,hys⟩ :∃ys,ys=hot.drop i:=⟨_,rfl⟩
 have hyl:ys.length=n- i:=by rw [hys,jiI,hl]
 have hyp:Pts w A' (n- i) ys:=hys▸hA' h
 have hym:MA ys:=hys▸ET hmono i
 have hylow:∀k,k<ys.length→min a.2 b.2- 1≤py ys k:=fun k hk=>by subst hys hi;exact jgA hmono hk
 have hway:vj a b ys=vj a b hot:=by subst hys hi;exact jfH
 have hymem:∀k,k<ys.length→pt ys k∈hot:=fun k hk=>by rw [hys] at hk⊢;rw [Mn,←Kk (by rw [jiI] at hk;omega)];exact jis _
 have hwl:=TD a b hot
 have hwl2:∀k,(vj a b (ys.take k)).length≤1048576:=fun k=>by have:=TD a b (ys.take k);rw [jiy] at this;omega
 have hwb:∀e∈vj a b hot,bd1 e.num e.den:=fun e he=>by
  obtain ⟨p,hp,rfl⟩ :=jdL he
  exact(DZ ha2 hb2 (hp2 p hp)).low
 have hpl: (qD a b hot).length= (vj a b hot).length:=by rw [qD,jit,Qu]
 have hsl: (kW (QI VF) (vj a b hot)).length= (vj a b hot).length:=Qu _
 refine Jh (m:=93) (Tryz.func168) J J (lb J) ?_;refine S3 ?_;refine aX (fun b1=> ?_);refine N1 ?_;refine aX (fun b2=> ?_);refine N7 ?_;refine Jx J J (VO J J) J (lb J) (fun b3=> ?_);refine n9 ?_;refine a9 (jT G0 J J (fun w1 hs=>jd6 _ a b w1 (jcT (k:=2) _ J J w1 hs))) ?_;refine S4 ?_;refine aL (fun b4=> ?_);refine N1 ?_;refine aL (fun b5=> ?_);refine N11 ?_;refine a9 (jT KO J J (fun w1 hs=>GA A n c hot (min a.2 b.2- 1) w1 (h.over hs.fin) (fun p hp=> (hp2 p hp).wide) Om hmono Om)) ?_;refine S9 ?_;refine Q7 (T:=238) (s:=5) ?_;refine N1 ?_;refine Ul (X:=Option Addr×Nat) (fun x=>True) (fun x=> [(11, .slice x.1 (vj a b hot).length x.2)]) (kK [6]) (fun x=> [.cel b1 56 [.int .i64 a.1, .int .i64 a.2], .cel b2 56 [.int .i64 b.1, .int .i64 b.2], .cel b3 56 [.int .i64 a.1, .int .i64 a.2, .int .i64 b.1, .int .i64 b.2], .cel b4 56 [.int .i64 (min a.1 b.1), .int .i64 (min a.2 b.2)], .cel b5 56 [.int .i64 (max a.1 b.1), .int .i64 (max a.2 b.2)],JY (Bs.N ⟨w,[]⟩) 238 5 (vj a b hot).length ((vj a b hot).flatMap Wy.cells) x]) (fun L h_0=> ?_) ?_
 ·refine S1 ?_
  rw [←hi]
  refine S3 ?_;refine a9 ((Vy J J J jw Om).as (eA)) ?_;refine S4 ?_;refine JQ (X:=Nat×Option Addr×Nat) (fun x=>x.1≤n- i) (fun x=>n- i- x.1) (fun x=> [(11, .slice x.2.1 (vj a b (ys.take x.1)).length x.2.2),(38, .int .i64 (x.1:Int))]) (kK [3,4,6,7,8,36,37]) (fun x=> [.cel b1 56 [.int .i64 a.1, .int .i64 a.2], .cel b2 56 [.int .i64 b.1, .int .i64 b.2], .cel b3 56 [.int .i64 a.1, .int .i64 a.2, .int .i64 b.1, .int .i64 b.2], .cel b4 56 [.int .i64 (min a.1 b.1), .int .i64 (min a.2 b.2)], .cel b5 56 [.int .i64 (max a.1 b.1), .int .i64 (max a.2 b.2)],JY (Bs.N ⟨w,[]⟩) 238 5 (vj a b (ys.take x.1)).length ((vj a b (ys.take x.1)).flatMap Wy.cells) x.2]) (0,none,0) (jii _) ⟨J,sz⟩ (fun _ h=>h) ?_
  intro⟨k,rA,rc⟩ hx L hL1
  refine v9 ?_;refine r9 ?_
  have hk:k≤n- i:=hx
  refine S5 ?_;refine cZ (fun c1=> ?_) (fun c1=> ?_)
  ·have hlt:k<n- i:=Om
   obtain ⟨eb,eo,rfl,_⟩ :=hyp.2 Om
   have hpm:=hymem k Om
   have hlo:=hylow k Om
   obtain ⟨⟨p1,p2⟩,p3,p4⟩ :=hp2 _ hpm
   have hwk:=hwl2 k
   refine S7 ?_;refine a9 (jk J J jj J (wL (b:=eb) (o:=eo) hyp hlt)) ?_;refine S1 ?_;refine aL (fun b6=> ?_);refine N13 ?_;refine cZ (fun c2=> ?_) (fun c2=> ?_)
   ·rw [jdN (a:=a) (b:=b) hym Om Om,hway]
    refine S7 ?_
    exact kg h_0 ((rA,rc)) (trivial) ⟨J,sz⟩ (fun _ h=>h.picks [0,1,2,3,4,5] Dc)
   ·refine S3 ?_;refine qt [(61, .bool (!yi a b (pt ys k)))] (kK [3,4,6,7,8,36,37,11,38,39,40,41,13,42,43,44,45,46,47]) (fun L h_8=> ?_) ?_
    ·refine S8 ?_;refine cV 54 (fun g1=> ?_) (fun g1=> ?_)
     ·refine S8 ?_
      exact Jk h_8 ⟨vb (by rw [Rw (p:=pt ys k) (by show px ys k<_;omega)];rfl),sz⟩ (u9 J)
     ·refine S14 ?_
      exact Jk h_8 ⟨vb (En (p:=pt ys k) (by show _≤px ys k;omega)),sz⟩ (u9 J)
    ·refine v9 ?_;refine cZ (fun c3=> ?_) (fun c3=> ?_)
     ·refine S8 ?_
      exact Ji hL1 ((k+1,rA,rc)) ((show k+1≤n- i by omega)) (by simp only;omega) ⟨(by rw [IV Om (SN (by simpa using c3))];rfl),vi Om,sz⟩ (fun _ h=>h.upto ⟨J,J,J,J,J,by rw [IV Om (SN (by simpa using c3))],trivial⟩)
     ·refine S7 ?_;refine a9 (jT XL J J (fun w1 hs=>TC a b (pt ys k) w1 ha hb (hh _ hpm))) ?_;refine S4 ?_;refine aL (fun b7=> ?_);refine N8 ?_;refine cZ (fun c4=> ?_) (fun c4=> ?_)
      ·rw [jhg c4]
       refine S5 ?_;refine a9 (JU J J (Y9 J J)) ?_;refine S1 ?_;refine Jx J J (yj J) J (lb J) (fun b8=> ?_);refine N1 ?_;refine JV (k:=5) J JD Qc Dc J Dc J J J (fun w' hs=>Qb hs (k:=8) J J) (by simp [Value.oneCell']) (by unfold maxLen;omega) Om (jih _) (fun r1=> ?_);refine N8 ?_
       exact Ji hL1 ((k+1,r1)) ((show k+1≤n- i by omega)) (by simp only;omega) ⟨(by rw [C4 Om (yW (by simpa using c3) (zC hlo (by show py ys k≤_;omega)) c4),jif];rfl),vi Om,sz⟩ (fun _ h=>h.upto ⟨J,J,J,J,J,by rw [C4 Om (yW (by simpa using c3) (zC hlo (by show py ys k≤_;omega)) c4),jif,jio];rfl,trivial⟩)
      ·refine S7 ?_
       exact Ji hL1 ((k+1,rA,rc)) ((show k+1≤n- i by omega)) (by simp only;omega) ⟨(by rw [IV Om (XX c4)];rfl),vi Om,sz⟩ (fun _ h=>h.upto ⟨J,J,J,J,J,by rw [IV Om (XX c4)],trivial⟩)
  ·rw [jiK Om,hway]
   refine S5 ?_
   exact kg h_0 ((rA,rc)) (trivial) ⟨J,sz⟩ (fun _ h=>h.picks [0,1,2,3,4,5] Dc)
 ·rintro⟨sA,sc⟩ -
  refine v9 ?_;refine r9 ?_;refine S4 ?_;refine z7 (k:=5) (r':=JY 0 238 5 (vj a b hot).length ((kW (QI VF) (vj a b hot)).flatMap Wy.cells) (sA,sc)) Ke J J J Dc J (fun w1 hs=>NQ (hs.all 5 _ J).1 J hwb Om) (fun _ h=>h) J ?_;refine N4 ?_;refine Q7 (T:=56) (s:=2) ?_;refine N9 ?_;refine JQ (X:=Nat×Option Addr×Nat) (fun y=>y.1≤(vj a b hot).length) (fun y=> (vj a b hot).length- y.1) (fun y=> [(16, .slice y.2.1 y.1 y.2.2),(82, .int .i64 (y.1:Int))]) (kK [6,80,81]) (fun y=> [.cel b1 56 [.int .i64 a.1, .int .i64 a.2], .cel b2 56 [.int .i64 b.1, .int .i64 b.2], .cel b3 56 [.int .i64 a.1, .int .i64 a.2, .int .i64 b.1, .int .i64 b.2], .cel b4 56 [.int .i64 (min a.1 b.1), .int .i64 (min a.2 b.2)], .cel b5 56 [.int .i64 (max a.1 b.1), .int .i64 (max a.2 b.2)],JY 0 238 5 (vj a b hot).length ((kW (QI VF) (vj a b hot)).flatMap Wy.cells) (sA,sc),JY (Bs.N ⟨w,[]⟩) 56 2 y.1 (((qD a b hot).take y.1).flatMap Js) y.2]) (0,none,0) (jii _) ⟨J,sz⟩ (fun _ h=>h) ?_
  intro⟨j,qA,qc⟩ hy L hL2
  refine v9 ?_;refine r9 ?_
  have hj:j≤(vj a b hot).length:=hy
  refine S5 ?_;refine cZ (fun c5=> ?_) (fun c5=> ?_)
  ·have hlt:j< (vj a b hot).length:=Om
   refine ky (fun w hs=>VJ (k:=5) J hs Om) ?_
   rintro⟨eg,rfl⟩
   obtain ⟨e,he⟩ :∃e,(kW (QI VF) (vj a b hot))[j]? =some e:=⟨_,List.getElem?_eq_getElem Om⟩
   refine S6 ?_;refine a9 (jN (j:=j) J J J JD Om) ?_;refine a9 (jk J J qj J (jfi (k:=5) J he)) ?_;refine S1 ?_;refine aL (fun b9=> ?_);refine N8 ?_;refine Jx J J (qM J) J (lb J) (fun b10=> ?_);refine N1 ?_;refine JV (k:=6) J jw jH Dc J Dc J J J (fun w' hs=>Qb hs (k:=8) J J) (by simp [Value.oneCell']) (by unfold maxLen;omega) Om (jih _) (fun r2=> ?_);refine N8 ?_
   exact Ji hL2 ((j+1,r2)) ((show j+1≤(vj a b hot).length by omega)) (by simp only;omega) ⟨J,vi Om,sz⟩ (fun _ h=>h.upto ⟨J,J,J,J,J,J,by rw [qD,←E6 he],trivial⟩)
  ·have hje:j= (vj a b hot).length:=Om
   subst hje
   rw [jiK Om]
   refine S11 ?_;refine jM J (.tmp J) ?_
   intro w' hs
   have hr:=hs.all 6 _ rfl
   exact⟨_,rfl,vv (by rw [hpl];exact hr.1) (fun b hb=> (hr.2.1 b hb).elim id (fun h=>by cases h)),hs.fin⟩
end Go.Proofs.YtpncbbcmoiiipaaGreat
