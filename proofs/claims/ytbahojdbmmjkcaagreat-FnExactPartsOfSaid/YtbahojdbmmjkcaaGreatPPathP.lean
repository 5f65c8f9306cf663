import Derived.Test.YtbahojdbmmjkcaaGreatPWay
import Derived.Test.YtbahojdbmmjkcaaGreatPPix
import Derived.Test.YtbahojdbmmjkcaaGreatPHot
import Derived.Test.YtbahojdbmmjkcaaGreatPOrd
import Derived.Test.YtbahojdbmmjkcaaGreatPBounds
import Derived.Test.YtbahojdbmmjkcaaGreatPSnapped
set_option linter.unusedVariables false
set_option linter.unusedSimpArgs false
namespace Go.Proofs.YtbahojdbmmjkcaaGreat
open Go Go.RowKit
variable {a b:Pn} {l:List Pn}
def jaP (x y:Wy) :Prop:=x.num*y.den<y.num*x.den∨(x.num*y.den=y.num*x.den∧x.cl=true∧y.cl=false)
def vL (x y:Wy) :Int:=if wZ (x.num*y.den- y.num*x.den)≠0 then wZ (x.num*y.den- y.num*x.den) else if(x.cl&& !y.cl) =true then-1 else if(!x.cl&&y.cl) =true then 1 else 0
theorem Bg {x y:Wy} :vL x y<0↔jaP x y:=by
 unfold vL jaP
 have k:=va (x.num*y.den- y.num*x.den)
 split
 ·omega
 ·cases x.cl<;>cases y.cl<;>simp<;>omega
theorem PP:Weak (Qu vL) :=by
 have e:∀x y,Qu vL x y=true↔jaP x y:=fun x y=>by rw [Qu,decide_eq_true_eq,Bg]
 have e':∀x y,Qu vL x y=false↔¬jaP x y:=fun x y=>by rw [←e x y,Bool.not_eq_true]
 refine⟨fun a b h=> ?_,fun a b c h1 h2=> ?_⟩
 ·rw [e'] ;rw [e] at h
  rintro(h2 |⟨h2,h3,h4⟩)
  ·rcases h with h |⟨h,_,_⟩ <;>omega
  ·rcases h with h |⟨h,h5,h6⟩
   ·omega
   ·rw [h5] at h4;cases h4
 ·rw [e'] at h1 h2⊢
  have b1:b.num*a.den≤a.num*b.den:=jhG.1 fun h=>h1 (.inl h)
  have b2:c.num*b.den≤b.num*c.den:=jhG.1 fun h=>h2 (.inl h)
  rintro(h |⟨h,h3,h4⟩)
  ·have:=vM b.pos c.pos a.pos b2 b1
   omega
  ·have g1:¬b.num*a.den<a.num*b.den:=fun h'=>by
    have:=KZ b.pos c.pos a.pos b2 h'
    omega
   have g2:¬c.num*b.den<b.num*c.den:=fun h'=>by
    have:=Vq b.pos c.pos a.pos h' b1
    omega
   cases hb:b.cl with
   | true=>exact h2 (.inr ⟨by omega,hb,h4⟩)
   | false=>exact h1 (.inr ⟨by omega,h3,hb⟩)
def J4 (a b p:Pn) :Sp:=J3 (J3 Wi (QD (2*a.1) (2* (b.1- a.1)) (2*p.1- 1))) (QD (2*a.2) (2* (b.2- a.2)) (2*p.2- 1))
def WZ (a b p:Pn) :Bool:=xt (2*a.1) (2* (b.1- a.1)) (2*p.1- 1) (2*a.2) (2* (b.2- a.2)) (2*p.2- 1)
theorem Vc (a b p:Pn) :0< (J4 a b p).ld∧0< (J4 a b p).hd:=Ku (Ku uu (kB _ _ _)) (kB _ _ _)
def O4 (a b p:Pn) :Wy:=⟨p.1,p.2,(J4 a b p).ln,(J4 a b p).ld,(J4 a b p).lc,(Vc a b p).1⟩
def UR (a b p:Pn) :Bool:= !(decide (p.1<min a.1 b.1- 1) || decide (p.1>max a.1 b.1+1))
def YF (a b p:Pn) :Bool:= !(decide (p.2<min a.2 b.2- 1) || decide (p.2>max a.2 b.2+1))
def KK (a b p:Pn) :Bool:=UR a b p&&YF a b p&&WZ a b p
def KD (a b:Pn) (hot:List Pn) :List Wy:= (hot.filter (KK a b)).map (O4 a b)
def Qi (a b:Pn) (hot:List Pn) :List Pn:= (kG (Qu vL) (KD a b hot)).map fun e=> (e.x,e.y)
theorem Ca (a b p:Pn) (hi:WZ a b p=true) :ud Wi (2*a.1) (2* (b.1- a.1)) (2*p.1- 1) =true∧VE (VE Wi (2*a.1) (2* (b.1- a.1)) (2*p.1- 1)) (2*a.2) (2* (b.2- a.2)) (2*p.2- 1) =J4 a b p:=by
 have:=II (2*a.1) (2* (b.1- a.1)) (2*p.1- 1) (2*a.2) (2* (b.2- a.2)) (2*p.2- 1)
 unfold WZ at hi
 rw [hi] at this
 have h2:= (jgy _ _▸this.symm:_∧_)
 refine⟨h2.1,?_⟩
 rw [LK MV,LK Dn]
 rfl
theorem BV {p:Pn} (ha:bd2 a) (hb:bd2 b) (hp:bd2 p) :bdP (J4 a b p) :=by
 obtain ⟨⟨a1,a2⟩,a3,a4⟩ :=ha
 obtain ⟨⟨b1,b2⟩,b3,b4⟩ :=hb
 obtain ⟨⟨p1,p2⟩,p3,p4⟩ :=hp
 have hx:=zI (2*a.1) (2* (b.1- a.1)) (2*p.1- 1) Om Om Om Om Om Om
 have hy:=zI (2*a.2) (2* (b.2- a.2)) (2*p.2- 1) Om Om Om Om Om Om
 exact wy (wg (wy (wg MU hx) hx) hy) hy
theorem Xx (a b:Pn) (l m:List Pn) :KD a b (l++m) =KD a b l++KD a b m:=by simp [KD,jhX]
theorem GA (h:∀p∈l,KK a b p=false) :KD a b l= [] :=by
 unfold KD
 rw [List.filter_eq_nil_iff.2 fun p hp=>by rw [h p hp];decide]
 rfl
theorem jcq {p:Pn} (h:KK a b p=true) :KD a b [p] = [O4 a b p] :=by simp [KD,h]
theorem Xq {xs:List Pn} {k:Nat} (h:k<xs.length) :xs.take (k+1) =xs.take k++ [pt xs k] :=by
 rw [jgE h,Kl h]
theorem Sn (a b:Pn) (l:List Pn) : (KD a b l).length≤l.length:=by
 unfold KD
 rw [jgF]
 exact jhZ _ _
theorem jcp {e:Wy} (h:e∈KD a b l) :∃p∈l,e=O4 a b p:=by
 obtain ⟨p,hp,rfl⟩ :=jgO.1 h
 exact⟨p,(jh2.1 hp).1,rfl⟩
end Go.Proofs.YtbahojdbmmjkcaaGreat
namespace Go.Proofs.YtbahojdbmmjkcaaGreat
open Go Go.RowKit
variable {A:Option Addr} {a b p:Pn} {e:Wy} {k:Nat} {l:List Wy} {x:Option Addr×Nat} {xs ys:List Pn}
set_option maxRecDepth 100000
set_option maxHeartbeats 4000000
theorem OX (x y:Wy) (w:World) (hx:bd1 x.num x.den) (hy:bd1 y.num y.den) :Calls Tryz.prog 174 #[x.val,y.val] w fun e w'=>e= .returned (.int .i64 (vL x y))∧Over w w':=by
 refine jT (m:=34) (Tryz.func174) J J (lb J) ?_;refine S3 ?_;refine aX (fun b1=> ?_);refine N1 ?_;refine aX (fun b2=> ?_);refine N9 ?_;refine a9 (jJ KH J J (fun w1 hs=>Vo _ _ _ _ _ _ w1 hx hy)) ?_;refine S7 ?_;refine cZ (fun c1=> ?_) (fun c1=> ?_)
 ·refine S7 ?_;refine jL J (.tmp J) ?_
  intro w' hs
  exact⟨by rw [vL,if_pos c1],hs.fin⟩
 ·refine S10 ?_;refine cV 18 (fun g1=> ?_) (fun g1=> ?_)
  ·refine S11 ?_;refine cZ (fun c2=> ?_) (fun c2=> ?_)
   ·refine S7 ?_;refine jL J (.tmp J) ?_
    intro w' hs
    exact⟨by unfold vL;rw [if_neg (fun h=>h c1)];simp_all,hs.fin⟩
   ·refine S7 ?_;refine cV 29 (fun g2=> ?_) (fun g2=> ?_)
    ·refine S9 ?_;refine cZ (fun c3=> ?_) (fun c3=> ?_)
     ·refine S7 ?_;refine jL J (.tmp J) ?_
      intro w' hs
      exact⟨by unfold vL;rw [if_neg (fun h=>h c1)];simp_all,hs.fin⟩
     ·refine S8 ?_;refine jL J (.tmp J) ?_
      intro w' hs
      exact⟨by unfold vL;rw [if_neg (fun h=>h c1)];simp_all,hs.fin⟩
    ·refine S15 ?_;refine jL J (.tmp J) ?_
     intro w' hs
     exact⟨by unfold vL;rw [if_neg (fun h=>h c1)];simp_all,hs.fin⟩
  ·refine S15 ?_;refine cV 29 (fun g3=> ?_) (fun g3=> ?_)
   ·refine S9 ?_;refine cZ (fun c4=> ?_) (fun c4=> ?_)
    ·refine S7 ?_;refine jL J (.tmp J) ?_
     intro w' hs
     exact⟨by unfold vL;rw [if_neg (fun h=>h c1)];simp_all,hs.fin⟩
    ·refine S8 ?_;refine jL J (.tmp J) ?_
     intro w' hs
     exact⟨by unfold vL;rw [if_neg (fun h=>h c1)];simp_all,hs.fin⟩
   ·refine S15 ?_;refine jL J (.tmp J) ?_
    intro w' hs
    exact⟨by unfold vL;rw [if_neg (fun h=>h c1)];simp_all,hs.fin⟩
theorem TA {w:World} {B n:Nat} (hrow: (JQ B 210 5 n (l.flatMap Wy.cells) x).P w) (hl:l.length=n) (hb:∀e∈l,bd1 e.num e.den) (hn:n≤1099511627776) :
  Calls Tryz.prog 173 #[.slice x.1 n x.2, .func (.func 174) #[] #[]] w fun e w'=>e= .returned (.tuple #[])∧Wrs (JQ B 210 5 n (l.flatMap Wy.cells) x).F w w'∧(JQ 0 210 5 n ((kG (Qu vL) l).flatMap Wy.cells) x).P w':=by
 have hrow':w.ownsRow B 210 5 (.slice x.1 n x.2) n (l.flatMap Wy.cells) :=hrow
 rcases hrow'.2 with⟨e,e2⟩ |⟨g,cap,cur,e,hbg,hg,hcap,hmax,hsz,htk⟩
 ·subst e2
  obtain rfl:l= [] :=jgX hl
  refine(TC x.1 x.2 _ w).mono ?_
  rintro e' w' ⟨rfl,hO⟩
  refine⟨J,Wrs.of hO,?_⟩
  show w'.ownsRow 0 210 5 (.slice x.1 0 x.2) 0 _
  rw [e]
  exact World.ownsRow_nil _ _ _ _
 ·injection e with e1 e3 e4
  have hF:∀b,b=g→(JQ B 210 5 n (l.flatMap Wy.cells) x).F b:=by
   rintro b rfl
   show Value.ownBlock (.slice x.1 n x.2) =some _
   rw [e1]
   rfl
  have hcl:cur.toList.length=cap*5:=by simp [hsz]
  have hcur:cur= (Wg (l++ []) (cur.toList.drop (n*5))).toArray:=by
   rw [jgW,Wg,←htk,jgI,jhB]
  have hC:CmpW w g (·∈l) vL:=⟨fun u hu v hv w' ho=>OX u v w' (hb u hu) (hb v hv),PP⟩
  have:=jdU g 210 (cur.toList.drop (n*5)) l [] n x.2 _ _ w hC (by rw [←hcur];exact hg) hl hn (fun u hu=>hu)
  rw [e1]
  refine this.mono ?_
  rintro e' w' ⟨rfl,hw,hh⟩
  refine⟨J,⟨hw.os,hw.tape,hw.output,hw.size,fun c hc hnc=>hw.block c hc (fun ec=>hnc (hF c ec))⟩,?_⟩
  rw [jgW] at hh
  have hml: ((kG (Qu vL) l).flatMap Wy.cells).length=n*5:=by rw [XD,Qh,hl]
  refine⟨hml, .inr ⟨g,x.2,_,by rw [e1],jgw _,hh,by rw [e4];exact hcap,by rw [e4];exact hmax,?_,?_⟩⟩
  ·rw [jhk,Wg,jgv,hml,jgQ,hcl,e4]
   omega
  ·rw [jhw,Wg,List.take_append_of_le_length Om,jgR Om]
theorem Zl (p:Pn) (t:Int) (w:World) (hp:zQ p) (ht: -1152921504606846976≤t∧t≤1152921504606846976) :Calls Tryz.prog 171 #[pV p, .int .i64 t] w fun e w'=>e= .returned (.int .i64 (wZ (p.2- t)))∧Over w w':=by
 obtain ⟨⟨p1,p2⟩,p3,p4⟩ :=hp
 refine jT (m:=10) (Tryz.func171) J J (lb J) ?_;refine S3 ?_;refine aX (fun b1=> ?_);refine N8 ?_;refine a9 (jJ QM J J (fun w h=>Calls.still (kX _ w))) ?_;refine S3 ?_;refine jL J (.tmp J) ?_
 intro w' hs
 exact⟨rfl,hs.fin⟩
def Z6 (xs:List Pn) (t:Int) :Nat:= (xs.takeWhile fun p=>decide (p.2<t)).length
theorem EL:∀ {xs:List Pn} {t:Int} {i:Nat},i≤xs.length→(∀k,k<i→py xs k<t)→(i<xs.length→t≤py xs i)→Z6 xs t=i
 | [],_,i,h,_,_=>by simp at h;subst h;rfl
 | p::xs,t,0,_,_,h3=>by
  have:=h3 (by simp)
  have e:py (p::xs) 0=p.2:=rfl
  unfold Z6
  rw [List.takeWhile_cons_of_neg (by simp;omega)]
  rfl
 | p::xs,t,i+1,h1,h2,h3=>by
  have e:py (p::xs) 0=p.2:=rfl
  have h0:=h2 0 Om
  have ek:∀k,py (p::xs) (k+1) =py xs k:=fun k=>by simp [py]
  unfold Z6
  rw [List.takeWhile_cons_of_pos (by simp;omega),jgD]
  have:=EL (xs:=xs) (t:=t) (i:=i) (by simpa using h1) (fun k hk=>by have:=h2 (k+1) Om;rwa [ek] at this) (fun hi=>by have:=h3 (by simpa using hi);rwa [ek] at this)
  unfold Z6 at this
  omega
def pt2 (xs:List Pn) (k:Nat) :Int:=py xs k
def Lt (xs:List Pn) :Prop:=∀k j,k≤j→j<xs.length→py xs k≤py xs j
theorem EA (h:Asc xs) :Lt xs:=fun k j hkj hj=>by
 rcases jhK hkj with h1 | rfl
 ·have:=jho.1 h k j Om hj h1
  rw [Kl,Kl] at this
  unfold wc pt at this
  simp only at this
  omega
 ·exact Int.le_refl _
theorem XF (A:Option Addr) (n c:Nat) (xs:List Pn) (t:Int) (w:World) (h:Pts w A n xs) (hx:∀p∈xs,zQ p) (ht: -1152921504606846976≤t∧t≤1152921504606846976) (hm:Lt xs) (hn:n≤1099511627776) :
  Calls Tryz.prog 170 #[.slice A n c, .int .i64 t, .func (.func 171) #[] #[]] w fun e w'=>e= .returned (.tuple #[.int .i64 ((Z6 xs t:Nat) :Int), .bool (decide (Z6 xs t<n) &&decide (wZ (py xs (Z6 xs t) - t) =0))])∧Over w w':=by
 have hl:=h.1
 have hbd:∀k,k<n→zQ (pt xs k) :=fun k hk=>hx _ (by rw [←Kl Om];exact jgH _)
 refine jT (m:=49) (Tryz.func170) J J (lb J) ?_;refine S19 ?_;refine J9 (X:=Nat×Nat) (fun q=>q.1≤q.2∧q.2≤n∧(∀k,k<q.1→py xs k<t)∧(∀k,q.2≤k→k<n→t≤py xs k)) (fun q=>q.2- q.1) (fun q=> [(9, .int .i64 (q.1:Int)),(10, .int .i64 (q.2:Int))]) (kK [0,1,2,6,7,8]) (0,n) (⟨jgw _,jgx _,fun k hk=>absurd hk (by simp),fun k h1 h2=>absurd (jgA h2 h1) (Nat.lt_irrefl _)⟩) ⟨J,sz⟩ ?_
 intro⟨i,j⟩ hq L hL1
 refine v9 ?_
 obtain ⟨q1,q2,q3,q4⟩ :i≤j∧j≤n∧(∀k,k<i→py xs k<t)∧(∀k,j≤k→k<n→t≤py xs k) :=hq
 refine S7 ?_;refine cZ (fun c1=> ?_) (fun c1=> ?_)
 ·have hij:i<j:=Om
  obtain ⟨eb,eo,rfl,_⟩ :=h.2 Om
  refine S8 ?_;refine a9 (ko J Tryz.underlying3 Tryz.underlying184 J (yW _ Om Om)) ?_;refine a9 (uo (q:=1) J J J Dc Dc) ?_;refine a9 ((ko J Tryz.underlying184 Tryz.underlying3 J (uy _ (by simp;omega) (by simp;omega))).as (congrArg _ (show(((i:Int) + (j:Int)) /2^ (Int.toNat 1)) = (((i+j) /2:Nat) :Int) by simp))) ?_;refine S7 ?_;refine a9 (jG (j:= (i+j) /2) J J J jB Om) ?_;refine a9 (jk J J jj J (wz (b:=eb) (o:=eo) h Om)) ?_;refine S1 ?_;refine a9 (vA uO J J J (fun w1 hs=>Zl (pt xs ((i+j) /2)) t w1 (hbd _ Om) ht)) ?_;refine S2 ?_;refine cZ (fun c2=> ?_) (fun c2=> ?_)
  ·have hlow:py xs ((i+j) /2) <t:= (by have:=PA.1 c2;simp only [pt] at this;omega)
   refine S7 ?_
   exact JY hL1 (((i+j) /2+1,j)) (⟨show(i+j) /2+1≤j by omega,q2,fun k hk=>by have:=hm k ((i+j) /2) (by simp only at hk;omega) Om;omega,q4⟩) (by simp only;omega) ⟨vi Om,sz⟩ (u9 J)
  ·have hlow:t≤py xs ((i+j) /2) :=jhG.1 fun hh=>by have:=PA.2 (show pt2 xs ((i+j) /2) - t<0 by unfold pt2;omega);unfold pt2 at this;simp only [pt] at c2;omega
   refine S6 ?_
   exact JY hL1 ((i,(i+j) /2)) (⟨show i≤(i+j) /2 by omega,show(i+j) /2≤n by omega,q3,fun k h1 h2=>by have:=hm ((i+j) /2) k h1 Om;omega⟩) (by simp only;omega) ⟨J,sz⟩ (u9 J)
 ·have hij:i=j:=Om
  subst hij
  have hbs:Z6 xs t=i:=EL Om q3 (fun hi=>q4 i (jgx _) Om)
  refine S12 ?_;refine cV 39 (fun g1=> ?_) (fun g1=> ?_)
  ·have hin:i<n:=Om
   obtain ⟨eb,eo,rfl,_⟩ :=h.2 Om
   refine S7 ?_;refine o9 (jG (j:=i) J J J jB Om) ?_;refine h9 ?_;refine o9 (jk J J jj J (wz (b:=eb) (o:=eo) h hin)) ?_;refine S3 ?_;refine o9 (vA uO J J J (fun w1 hs=>Zl (pt xs i) t w1 (hbd _ hin) ht)) ?_;refine S7 ?_;refine qo J (.tmp J) (.tmp J) ?_
   intro w' hs
   exact⟨by rw [hbs,show decide (i<n) =true from decide_eq_true hin,jg2];rfl,hs.fin⟩
  ·refine S13 ?_;refine qo J (.tmp J) (.tmp J) ?_
   intro w' hs
   exact⟨by rw [hbs,show decide (i<n) =false from decide_eq_false Om,jhd],hs.fin⟩
theorem jcH (b3:Nat) (a b:Pn) (w:World) (h:Pts w (some ⟨b3,0,none⟩) 2 [a,b]) :Calls Tryz.prog 169 #[.slice (some ⟨b3,0,none⟩) 2 2] w fun e w'=>e= .returned (.tuple #[WH (min a.1 b.1) (min a.2 b.2),WH (max a.1 b.1) (max a.2 b.2)])∧Over w w':=by
 have:=Dz _ 2 2 [a,b] w h Dc Dc Dc
 exact this
def wkS (a b p:Pn) :Sp:=if ud Wi (2*a.1) (2* (b.1- a.1)) (2*p.1- 1) =true then VE (VE Wi (2*a.1) (2* (b.1- a.1)) (2*p.1- 1)) (2*a.2) (2* (b.2- a.2)) (2*p.2- 1) else VE Wi (2*a.1) (2* (b.1- a.1)) (2*p.1- 1)
theorem jfC (h:WZ a b p=true) :wkS a b p=J4 a b p:=by
 obtain ⟨h1,h2⟩ :=Ca a b p h
 rw [wkS,if_pos h1,h2]
theorem Sm (a b p:Pn) (w:World) (ha:wF a.1 a.2=true) (hb:wF b.1 b.2=true) (hp:wF p.1 p.2=true) :
  Calls Tryz.prog 172 #[pV a,pV b,pV p] w fun e w'=>e= .returned (.tuple #[jey (wkS a b p), .bool (WZ a b p)])∧Over w w':=by
 have:=O1 a.1 a.2 b.1 b.2 p.1 p.2 w ha hb hp
 rw [←II] at this
 exact this
theorem IB (h:p.1<min a.1 b.1- 1) :UR a b p=false:=by unfold UR;rw [decide_eq_true h];rfl
theorem P7 (h:min a.1 b.1- 1≤p.1) :decide (p.1>max a.1 b.1+1) = !UR a b p:=by unfold UR;rw [decide_eq_false (jhG.2 h),Bool.false_or,Bool.not_not]
theorem YG (h1:min a.2 b.2- 1≤p.2) (h2:p.2≤max a.2 b.2+1) :YF a b p=true:=by unfold YF;rw [decide_eq_false (jhG.2 h1),decide_eq_false (jhG.2 h2)];rfl
theorem RI (h:UR a b p=false) :KK a b p=false:=by simp [KK,h]
theorem RJ (h:YF a b p=false) :KK a b p=false:=by simp [KK,h]
theorem x7 (h:WZ a b p=false) :KK a b p=false:=by simp [KK,h]
theorem U9 (h1:UR a b p=true) (h2:YF a b p=true) (h3:WZ a b p=true) :KK a b p=true:=by simp [KK,h1,h2,h3]
theorem F1 (hk:k<ys.length) (h:KK a b (pt ys k) =false) :KD a b (ys.take (k+1)) =KD a b (ys.take k) :=by
 rw [Xq hk,Xx,GA (l:= [pt ys k]) (fun p hp=>by rw [jgC.1 hp];exact h),jgW]
theorem PN (hk:k<ys.length) (h:KK a b (pt ys k) =true) :KD a b (ys.take (k+1)) =KD a b (ys.take k) ++ [O4 a b (pt ys k)] :=by
 rw [Xq hk,Xx,jcq h]
theorem je7 (h:p∈xs) :∃k,k<xs.length∧pt xs k=p:=by
 obtain ⟨k,hk,e⟩ :=jg1 h
 exact⟨k,hk,by rw [←e,Kl hk]⟩
theorem Lf (xs:List Pn) (i k:Nat) :pt (xs.drop i) k=pt xs (i+k) :=by
 simp only [pt,px,py,List.getD_eq_getElem?_getD,List.getElem?_drop]
theorem DB:∀(xs:List Pn) (t:Int),Z6 xs t≤xs.length∧(∀p∈xs.take (Z6 xs t),p.2<t)∧(Z6 xs t<xs.length→t≤py xs (Z6 xs t))
 | [],t=>⟨jgx _,fun p hp=>by simp at hp,fun h=>absurd h (by simp [Z6])⟩
 | p::xs,t=>by
  obtain ⟨h1,h2,h3⟩ :=DB xs t
  by_cases hp:p.2<t
  ·have e:Z6 (p::xs) t=Z6 xs t+1:=by
    unfold Z6
    rw [List.takeWhile_cons_of_pos (by simpa using hp),jgD]
   rw [e]
   refine⟨by simpa using h1,fun q hq=> ?_,fun h=> ?_⟩
   ·rw [List.take_succ_cons] at hq
    rcases jgK.1 hq with rfl | hq
    ·exact hp
    ·exact h2 q hq
   ·have:=h3 (by simpa using h)
    have ek:py (p::xs) (Z6 xs t+1) =py xs (Z6 xs t) :=by simp [py]
    rw [ek]
    exact this
  ·have e:Z6 (p::xs) t=0:=by
    unfold Z6
    rw [List.takeWhile_cons_of_neg (by simpa using hp)]
    rfl
   rw [e]
   exact⟨jgw _,fun q hq=>by simp at hq,fun _=>by have:py (p::xs) 0=p.2:=rfl;omega⟩
theorem jec :KD a b (xs.drop (Z6 xs (min a.2 b.2- 1))) =KD a b xs:=by
 obtain ⟨h1,h2,h3⟩ :=DB xs (min a.2 b.2- 1)
 conv=>rhs;rw [←jgI (Z6 xs (min a.2 b.2- 1)) xs]
 rw [Xx,GA (l:=xs.take _) (fun p hp=>RJ (by have:=h2 p hp;simp [YF,this])),jhb]
theorem jcr (hm:Lt ys) (hk:k<ys.length) (h:py ys k>max a.2 b.2+1) :KD a b (ys.take k) =KD a b ys:=by
 conv=>rhs;rw [←jgI k ys]
 rw [Xx,GA (l:=ys.drop k) (fun p hp=>RJ ?_),jgW]
 obtain ⟨j,hj,rfl⟩ :=je7 hp
 rw [jgQ] at hj
 rw [Lf]
 have:=hm k (k+j) Om Om
 have e: (pt ys (k+j)).2=py ys (k+j) :=rfl
 simp [YF,e]
 omega
theorem Cw (h:Lt xs) (i:Nat) :Lt (xs.drop i) :=fun k j hkj hj=>by
 rw [jgQ] at hj
 have e:∀k,py (xs.drop i) k=py xs (i+k) :=fun k=>by have:=Lf xs i k;simp only [pt] at this;injection this
 rw [e,e]
 exact h _ _ Om Om
theorem je2 (hm:Lt xs) (hk:k< (xs.drop (Z6 xs (min a.2 b.2- 1))).length) :min a.2 b.2- 1≤py (xs.drop (Z6 xs (min a.2 b.2- 1))) k:=by
 obtain ⟨h1,h2,h3⟩ :=DB xs (min a.2 b.2- 1)
 rw [jgQ] at hk
 have e:py (xs.drop (Z6 xs (min a.2 b.2- 1))) k=py xs (Z6 xs (min a.2 b.2- 1) +k) :=by have:=Lf xs (Z6 xs (min a.2 b.2- 1)) k;simp only [pt] at this;injection this
 rw [e]
 have:=hm (Z6 xs (min a.2 b.2- 1)) (Z6 xs (min a.2 b.2- 1) +k) Om Om
 have:=h3 Om
 omega
theorem Tw {n c i:Nat} (hi:i≤n) (hc:n≤c) :∃A',sliced A i n c 2= .slice A' (n- i) (c- i)∧∀ {w:World} {xs:List Pn},Pts w A n xs→Pts w A' (n- i) (xs.drop i) :=by
 by_cases h0:i<n
 ·cases A with
  | none=>exact⟨none,by simp [sliced],fun h=>absurd (h.2 Om) (by rintro⟨b,o,e,_⟩;cases e)⟩
  | some p=>
   by_cases hp:p.spot=none
   ·obtain ⟨b,o,v⟩ :=p
    cases hp
    exact⟨_,ut hc hi,fun h=>h.dropT hi hc⟩
   ·refine⟨_,J,fun {w xs} h=> ?_⟩
    obtain ⟨b,o,e,_⟩ :=h.2 Om
    injection e with e
    subst e
    exact absurd rfl hp
 ·obtain rfl:i=n:=by omega
  refine⟨_,J,fun {w xs} h=>⟨by rw [jgQ,h.1],fun h=>absurd h Om⟩⟩
theorem jdJ {w0:Bs} {Rs:List Res} {B T m g c j:Nat} (hk:Rs[k]? =some (JQ B T 5 m (l.flatMap Wy.cells) (some ⟨g,0,none⟩,c))) (he:l[j]? =some e) :∀w',St w0 Rs w'→∀q v,e.cells[q]? =some v→w'.cell? ⟨g,0+j*5+q,none⟩ =some v:=fun w' hs q v hv=>by
 have h:w'.ownsRow B T 5 (.slice (some ⟨g,0,none⟩) m c) m (l.flatMap Wy.cells) := (hs.all k _ hk).1
 have:=jcv (tl:= []) he hv
 rw [Wg,jgW] at this
 have:=h.cells rfl _ v this
 rw [QJ] at this
 rw [jgT] at this⊢
 exact this
theorem CG {L:List Wy} (h:L[k]? =some e) : ((L.map fun e=> (e.x,e.y)).take k).flatMap Ju++ [.int .i64 e.x, .int .i64 e.y] = ((L.map fun e=> (e.x,e.y)).take (k+1)).flatMap Ju:=by
 obtain ⟨hk,rfl⟩ :=List.getElem?_eq_some_iff.1 h
 rw [jgE (by simpa using hk),jgG]
 simp [Ju]
theorem FM (a b:Pn) (A:Option Addr) (n c:Nat) (hot:List Pn) (w:World) (h:Pts w A n hot) (ha:wF a.1 a.2=true) (hb:wF b.1 b.2=true) (hh:∀p∈hot,wF p.1 p.2=true) (hasc:Asc hot) (hc:n≤c) (hn:n≤1048576) :
  Calls Tryz.prog 114 #[pV a,pV b, .slice A n c] w fun e w'=>∃v,e= .returned v∧w'.ownsRow w.heap.size 28 2 v (Qi a b hot).length ((Qi a b hot).flatMap Ju)∧Over w w':=by
 have hl:=h.1
 have hmono:=EA hasc
 obtain ⟨hi1,hi2,hi3⟩ :=DB hot (min a.2 b.2- 1)
 have ha2:bd2 a:=yM ha
 have hb2:bd2 b:=yM hb
 have hp2:∀p∈hot,bd2 p:=fun p hp=>yM (hh p hp)
 obtain ⟨⟨a1,a2⟩,a3,a4⟩ :=id ha2
 obtain ⟨⟨b1',b2'⟩,b3',b4'⟩ :=id hb2
 obtain ⟨i,hi⟩ :∃i,i=Z6 hot (min a.2 b.2- 1) :=⟨_,rfl⟩
 obtain ⟨A',eA,hA'⟩ :=Tw (A:=A) (n:=n) (c:=c) (i:=i) Om hc
 obtain ⟨ys,hys⟩ :∃ys,ys=hot.drop i:=⟨_,rfl⟩
 have hyl:ys.length=n- i:=by rw [hys,jgQ,hl]
 have hyp:Pts w A' (n- i) ys:=hys▸hA' h
 have hym:Lt ys:=hys▸Cw hmono i
 have hylow:∀k,k<ys.length→min a.2 b.2- 1≤py ys k:=fun k hk=>by subst hys hi;exact je2 hmono hk
 have hway:KD a b ys=KD a b hot:=by subst hys hi;exact jec
 have hymem:∀k,k<ys.length→pt ys k∈hot:=fun k hk=>by rw [hys] at hk⊢;rw [Lf,←Kl (by rw [jgQ] at hk;omega)];exact jgH _
 have hwl:=Sn a b hot
 have hwl2:∀k,(KD a b (ys.take k)).length≤1048576:=fun k=>by have:=Sn a b (ys.take k);rw [jgJ] at this;omega
 have hwb:∀e∈KD a b hot,bd1 e.num e.den:=fun e he=>by
  obtain ⟨p,hp,rfl⟩ :=jcp he
  exact(BV ha2 hb2 (hp2 p hp)).low
 have hpl: (Qi a b hot).length= (KD a b hot).length:=by rw [Qi,jgF,Qh]
 have hsl: (kG (Qu vL) (KD a b hot)).length= (KD a b hot).length:=Qh _
 refine jT (m:=93) (Tryz.func114) J J (lb J) ?_;refine S3 ?_;refine aX (fun b1=> ?_);refine N1 ?_;refine aX (fun b2=> ?_);refine N7 ?_;refine Jw J J (vT J J) J (lb J) (fun b3=> ?_);refine n9 ?_;refine a9 (jJ XZ J J (fun w1 hs=>jcH _ a b w1 (jbz (k:=2) _ J J w1 hs))) ?_;refine S4 ?_;refine aL (fun b4=> ?_);refine N1 ?_;refine aL (fun b5=> ?_);refine N11 ?_;refine a9 (jJ Ko J J (fun w1 hs=>XF A n c hot (min a.2 b.2- 1) w1 (h.over hs.fin) (fun p hp=> (hp2 p hp).wide) Om hmono Om)) ?_;refine S9 ?_;refine kh (T:=210) (s:=5) ?_;refine N1 ?_;refine Ug (X:=Option Addr×Nat) (fun x=>True) (fun x=> [(11, .slice x.1 (KD a b hot).length x.2)]) (kK [6]) (fun x=> [.cel b1 28 [.int .i64 a.1, .int .i64 a.2], .cel b2 28 [.int .i64 b.1, .int .i64 b.2], .cel b3 28 [.int .i64 a.1, .int .i64 a.2, .int .i64 b.1, .int .i64 b.2], .cel b4 28 [.int .i64 (min a.1 b.1), .int .i64 (min a.2 b.2)], .cel b5 28 [.int .i64 (max a.1 b.1), .int .i64 (max a.2 b.2)],JQ (Bs.N ⟨w,[]⟩) 210 5 (KD a b hot).length ((KD a b hot).flatMap Wy.cells) x]) (fun L h_0=> ?_) ?_
 ·refine S1 ?_
  rw [←hi]
  refine S3 ?_;refine a9 ((vG J J J jB Om).as (eA)) ?_;refine S4 ?_;refine JN (X:=Nat×Option Addr×Nat) (fun x=>x.1≤n- i) (fun x=>n- i- x.1) (fun x=> [(11, .slice x.2.1 (KD a b (ys.take x.1)).length x.2.2),(38, .int .i64 (x.1:Int))]) (kK [3,4,6,7,8,36,37]) (fun x=> [.cel b1 28 [.int .i64 a.1, .int .i64 a.2], .cel b2 28 [.int .i64 b.1, .int .i64 b.2], .cel b3 28 [.int .i64 a.1, .int .i64 a.2, .int .i64 b.1, .int .i64 b.2], .cel b4 28 [.int .i64 (min a.1 b.1), .int .i64 (min a.2 b.2)], .cel b5 28 [.int .i64 (max a.1 b.1), .int .i64 (max a.2 b.2)],JQ (Bs.N ⟨w,[]⟩) 210 5 (KD a b (ys.take x.1)).length ((KD a b (ys.take x.1)).flatMap Wy.cells) x.2]) (0,none,0) (jgw _) ⟨J,sz⟩ (fun _ h=>h) ?_
  intro⟨k,rA,rc⟩ hx L hL1
  refine v9 ?_;refine r9 ?_
  have hk:k≤n- i:=hx
  refine S5 ?_;refine cZ (fun c1=> ?_) (fun c1=> ?_)
  ·have hlt:k<n- i:=Om
   obtain ⟨eb,eo,rfl,_⟩ :=hyp.2 Om
   have hpm:=hymem k Om
   have hlo:=hylow k Om
   obtain ⟨⟨p1,p2⟩,p3,p4⟩ :=hp2 _ hpm
   have hwk:=hwl2 k
   refine S7 ?_;refine a9 (jk J J jj J (wz (b:=eb) (o:=eo) hyp hlt)) ?_;refine S1 ?_;refine aL (fun b6=> ?_);refine N13 ?_;refine cZ (fun c2=> ?_) (fun c2=> ?_)
   ·rw [jcr (a:=a) (b:=b) hym Om Om,hway]
    refine S7 ?_
    exact ky h_0 ((rA,rc)) (trivial) ⟨J,sz⟩ (fun _ h=>h.picks [0,1,2,3,4,5] Dc)
   ·refine S3 ?_;refine qn [(61, .bool (!UR a b (pt ys k)))] (kK [3,4,6,7,8,36,37,11,38,39,40,41,13,42,43,44,45,46,47]) (fun L h_8=> ?_) ?_
    ·refine S8 ?_;refine cV 54 (fun g1=> ?_) (fun g1=> ?_)
     ·refine S8 ?_
      exact Jr h_8 ⟨vb (by rw [IB (p:=pt ys k) (by show px ys k<_;omega)];rfl),sz⟩ (u9 J)
     ·refine S14 ?_
      exact Jr h_8 ⟨vb (P7 (p:=pt ys k) (by show _≤px ys k;omega)),sz⟩ (u9 J)
    ·refine v9 ?_;refine cZ (fun c3=> ?_) (fun c3=> ?_)
     ·refine S8 ?_
      exact j4 hL1 ((k+1,rA,rc)) ((show k+1≤n- i by omega)) (by simp only;omega) ⟨(by rw [F1 Om (RI (by simpa using c3))];rfl),vi Om,sz⟩ (fun _ h=>h.upto ⟨J,J,J,J,J,by rw [F1 Om (RI (by simpa using c3))],trivial⟩)
     ·refine S7 ?_;refine a9 (jJ xT J J (fun w1 hs=>Sm a b (pt ys k) w1 ha hb (hh _ hpm))) ?_;refine S4 ?_;refine aL (fun b7=> ?_);refine N8 ?_;refine cZ (fun c4=> ?_) (fun c4=> ?_)
      ·rw [jfC c4]
       refine S5 ?_;refine a9 (J0 J J (Yn J J)) ?_;refine S1 ?_;refine Jw J J (UA J) J (lb J) (fun b8=> ?_);refine N1 ?_;refine JV (k:=5) J JF qV Dc J Dc J J J (fun w' hs=>qR hs (k:=8) J J) (by simp [Value.oneCell']) (by unfold maxLen;omega) Om (jgx _) (fun r1=> ?_);refine N8 ?_
       exact j4 hL1 ((k+1,r1)) ((show k+1≤n- i by omega)) (by simp only;omega) ⟨(by rw [PN Om (U9 (by simpa using c3) (YG hlo (by show py ys k≤_;omega)) c4),jgv];rfl),vi Om,sz⟩ (fun _ h=>h.upto ⟨J,J,J,J,J,by rw [PN Om (U9 (by simpa using c3) (YG hlo (by show py ys k≤_;omega)) c4),jgv,jgG];rfl,trivial⟩)
      ·refine S7 ?_
       exact j4 hL1 ((k+1,rA,rc)) ((show k+1≤n- i by omega)) (by simp only;omega) ⟨(by rw [F1 Om (x7 c4)];rfl),vi Om,sz⟩ (fun _ h=>h.upto ⟨J,J,J,J,J,by rw [F1 Om (x7 c4)],trivial⟩)
  ·rw [jgR Om,hway]
   refine S5 ?_
   exact ky h_0 ((rA,rc)) (trivial) ⟨J,sz⟩ (fun _ h=>h.picks [0,1,2,3,4,5] Dc)
 ·rintro⟨sA,sc⟩ -
  refine v9 ?_;refine r9 ?_;refine S4 ?_;refine Va (k:=5) (r':=JQ 0 210 5 (KD a b hot).length ((kG (Qu vL) (KD a b hot)).flatMap Wy.cells) (sA,sc)) kH J J J Dc J (fun w1 hs=>TA (hs.all 5 _ J).1 J hwb Om) (fun _ h=>h) J ?_;refine N4 ?_;refine kh (T:=28) (s:=2) ?_;refine N9 ?_;refine JN (X:=Nat×Option Addr×Nat) (fun y=>y.1≤(KD a b hot).length) (fun y=> (KD a b hot).length- y.1) (fun y=> [(16, .slice y.2.1 y.1 y.2.2),(82, .int .i64 (y.1:Int))]) (kK [6,80,81]) (fun y=> [.cel b1 28 [.int .i64 a.1, .int .i64 a.2], .cel b2 28 [.int .i64 b.1, .int .i64 b.2], .cel b3 28 [.int .i64 a.1, .int .i64 a.2, .int .i64 b.1, .int .i64 b.2], .cel b4 28 [.int .i64 (min a.1 b.1), .int .i64 (min a.2 b.2)], .cel b5 28 [.int .i64 (max a.1 b.1), .int .i64 (max a.2 b.2)],JQ 0 210 5 (KD a b hot).length ((kG (Qu vL) (KD a b hot)).flatMap Wy.cells) (sA,sc),JQ (Bs.N ⟨w,[]⟩) 28 2 y.1 (((Qi a b hot).take y.1).flatMap Ju) y.2]) (0,none,0) (jgw _) ⟨J,sz⟩ (fun _ h=>h) ?_
  intro⟨j,qA,qc⟩ hy L hL2
  refine v9 ?_;refine r9 ?_
  have hj:j≤(KD a b hot).length:=hy
  refine S5 ?_;refine cZ (fun c5=> ?_) (fun c5=> ?_)
  ·have hlt:j< (KD a b hot).length:=Om
   refine Q1 (fun w hs=>KX (k:=5) J hs Om) ?_
   rintro⟨eg,rfl⟩
   obtain ⟨e,he⟩ :∃e,(kG (Qu vL) (KD a b hot))[j]? =some e:=⟨_,List.getElem?_eq_getElem Om⟩
   refine S6 ?_;refine a9 (jG (j:=j) J J J JF Om) ?_;refine a9 (jk J J qe J (jdJ (k:=5) J he)) ?_;refine S1 ?_;refine aL (fun b9=> ?_);refine N8 ?_;refine Jw J J (qX J) J (lb J) (fun b10=> ?_);refine N1 ?_;refine JV (k:=6) J jB jH Dc J Dc J J J (fun w' hs=>qR hs (k:=8) J J) (by simp [Value.oneCell']) (by unfold maxLen;omega) Om (jgx _) (fun r2=> ?_);refine N8 ?_
   exact j4 hL2 ((j+1,r2)) ((show j+1≤(KD a b hot).length by omega)) (by simp only;omega) ⟨J,vi Om,sz⟩ (fun _ h=>h.upto ⟨J,J,J,J,J,J,by rw [Qi,←CG he],trivial⟩)
  ·have hje:j= (KD a b hot).length:=Om
   subst hje
   rw [jgR Om]
   refine S11 ?_;refine jL J (.tmp J) ?_
   intro w' hs
   have hr:=hs.all 6 _ rfl
   exact⟨_,rfl,KN (by rw [hpl];exact hr.1) (fun b hb=> (hr.2.1 b hb).elim id (fun h=>by cases h)),hs.fin⟩
end Go.Proofs.YtbahojdbmmjkcaaGreat
