import Derived.Test.YtbahojdbmmjkcaaGreatSWay
import Derived.Test.YtbahojdbmmjkcaaGreatSPix
import Derived.Test.YtbahojdbmmjkcaaGreatSHot
import Derived.Test.YtbahojdbmmjkcaaGreatSNetS
import Derived.Test.YtbahojdbmmjkcaaGreatSBounds
import Derived.Test.YtbahojdbmmjkcaaGreatSSnapped
set_option linter.unusedVariables false
set_option linter.unusedSimpArgs false
namespace Go.Proofs.YtbahojdbmmjkcaaGreat
open Go Go.RowKit
variable {a b:Pn} {l:List Pn}
def jcs (x y:Wy) :Prop:=x.num*y.den<y.num*x.den∨(x.num*y.den=y.num*x.den∧x.cl=true∧y.cl=false)
def Vc (x y:Wy) :Int:=if Wv (x.num*y.den- y.num*x.den)≠0 then Wv (x.num*y.den- y.num*x.den) else if(x.cl&& !y.cl) =true then-1 else if(!x.cl&&y.cl) =true then 1 else 0
theorem DI {x y:Wy} :Vc x y<0↔jcs x y:=by
 unfold Vc jcs
 have k:=vv (x.num*y.den- y.num*x.den)
 split
 ·omega
 ·cases x.cl<;>cases y.cl<;>simp<;>omega
theorem EA:Weak (QI Vc) :=by
 have e:∀x y,QI Vc x y=true↔jcs x y:=fun x y=>by rw [QI,decide_eq_true_eq,DI]
 have e':∀x y,QI Vc x y=false↔¬jcs x y:=fun x y=>by rw [←e x y,Bool.not_eq_true]
 refine⟨fun a b h=> ?_,fun a b c h1 h2=> ?_⟩
 ·rw [e'] ;rw [e] at h
  rintro(h2 |⟨h2,h3,h4⟩)
  ·rcases h with h |⟨h,_,_⟩ <;>omega
  ·rcases h with h |⟨h,h5,h6⟩
   ·omega
   ·rw [h5] at h4;cases h4
 ·rw [e'] at h1 h2⊢
  have b1:b.num*a.den≤a.num*b.den:=jjn.1 fun h=>h1 (.inl h)
  have b2:c.num*b.den≤b.num*c.den:=jjn.1 fun h=>h2 (.inl h)
  rintro(h |⟨h,h3,h4⟩)
  ·have:=Vd b.pos c.pos a.pos b2 b1
   omega
  ·have g1:¬b.num*a.den<a.num*b.den:=fun h'=>by
    have:=vj b.pos c.pos a.pos b2 h'
    omega
   have g2:¬c.num*b.den<b.num*c.den:=fun h'=>by
    have:=VD b.pos c.pos a.pos h' b1
    omega
   cases hb:b.cl with
   | true=>exact h2 (.inr ⟨by omega,hb,h4⟩)
   | false=>exact h1 (.inr ⟨by omega,h3,hb⟩)
def J6 (a b p:Pn) :Sp:=J5 (J5 WG (QZ (2*a.1) (2* (b.1- a.1)) (2*p.1- 1))) (QZ (2*a.2) (2* (b.2- a.2)) (2*p.2- 1))
def ui (a b p:Pn) :Bool:=Xb (2*a.1) (2* (b.1- a.1)) (2*p.1- 1) (2*a.2) (2* (b.2- a.2)) (2*p.2- 1)
theorem Vs (a b p:Pn) :0< (J6 a b p).ld∧0< (J6 a b p).hd:=KM (KM uZ (Ke _ _ _)) (Ke _ _ _)
def Dy (a b p:Pn) :Wy:=⟨p.1,p.2,(J6 a b p).ln,(J6 a b p).ld,(J6 a b p).lc,(Vs a b p).1⟩
def U7 (a b p:Pn) :Bool:= !(decide (p.1<min a.1 b.1- 1) || decide (p.1>max a.1 b.1+1))
def Y2 (a b p:Pn) :Bool:= !(decide (p.2<min a.2 b.2- 1) || decide (p.2>max a.2 b.2+1))
def K3 (a b p:Pn) :Bool:=U7 a b p&&Y2 a b p&&ui a b p
def KU (a b:Pn) (hot:List Pn) :List Wy:= (hot.filter (K3 a b)).map (Dy a b)
def Qv (a b:Pn) (hot:List Pn) :List Pn:= (Ki (QI Vc) (KU a b hot)).map fun e=> (e.x,e.y)
theorem EU (a b p:Pn) (hi:ui a b p=true) :uG WG (2*a.1) (2* (b.1- a.1)) (2*p.1- 1) =true∧VO (VO WG (2*a.1) (2* (b.1- a.1)) (2*p.1- 1)) (2*a.2) (2* (b.2- a.2)) (2*p.2- 1) =J6 a b p:=by
 have:=R3 (2*a.1) (2* (b.1- a.1)) (2*p.1- 1) (2*a.2) (2* (b.2- a.2)) (2*p.2- 1)
 unfold ui at hi
 rw [hi] at this
 have h2:= (jig _ _▸this.symm:_∧_)
 refine⟨h2.1,?_⟩
 rw [MC Be,MC FJ]
 rfl
theorem Fj {p:Pn} (ha:bd2 a) (hb:bd2 b) (hp:bd2 p) :bdP (J6 a b p) :=by
 obtain ⟨⟨a1,a2⟩,a3,a4⟩ :=ha
 obtain ⟨⟨b1,b2⟩,b3,b4⟩ :=hb
 obtain ⟨⟨p1,p2⟩,p3,p4⟩ :=hp
 have hx:=Zw (2*a.1) (2* (b.1- a.1)) (2*p.1- 1) Om Om Om Om Om Om
 have hy:=Zw (2*a.2) (2* (b.2- a.2)) (2*p.2- 1) Om Om Om Om Om Om
 exact wR (wz (wR (wz Bd hx) hx) hy) hy
theorem X8 (a b:Pn) (l m:List Pn) :KU a b (l++m) =KU a b l++KU a b m:=by simp [KU,jjK]
theorem Hv (h:∀p∈l,K3 a b p=false) :KU a b l= [] :=by
 unfold KU
 rw [List.filter_eq_nil_iff.2 fun p hp=>by rw [h p hp];decide]
 rfl
theorem jdY {p:Pn} (h:K3 a b p=true) :KU a b [p] = [Dy a b p] :=by simp [KU,h]
theorem X3 {xs:List Pn} {k:Nat} (h:k<xs.length) :xs.take (k+1) =xs.take k++ [pt xs k] :=by
 rw [jik h,kB h]
theorem T9 (a b:Pn) (l:List Pn) : (KU a b l).length≤l.length:=by
 unfold KU
 rw [jip]
 exact jjL _ _
theorem jdX {e:Wy} (h:e∈KU a b l) :∃p∈l,e=Dy a b p:=by
 obtain ⟨p,hp,rfl⟩ :=jiD.1 h
 exact⟨p,(jjT.1 hp).1,rfl⟩
end Go.Proofs.YtbahojdbmmjkcaaGreat
namespace Go.Proofs.YtbahojdbmmjkcaaGreat
open Go Go.RowKit
variable {A:Option Addr} {a b p:Pn} {e:Wy} {k:Nat} {l:List Wy} {x:Option Addr×Nat} {xs ys:List Pn}
set_option maxRecDepth 100000
set_option maxHeartbeats 4000000
theorem Dq (x y:Wy) (w:World) (hx:bd1 x.num x.den) (hy:bd1 y.num y.den) :Calls Tryz.prog 174 #[x.val,y.val] w fun e w'=>e= .returned (.int .i64 (Vc x y))∧Over w w':=by
 refine jK (m:=34) (Tryz.func174) J J (lb J) ?_;refine S3 ?_;refine aX (fun b1=> ?_);refine N1 ?_;refine aX (fun b2=> ?_);refine N9 ?_;refine a9 (jG K0 J J (fun w1 hs=>VA _ _ _ _ _ _ w1 hx hy)) ?_;refine S7 ?_;refine cZ (fun c1=> ?_) (fun c1=> ?_)
 ·refine S7 ?_;refine jJ J (.tmp J) ?_
  intro w' hs
  exact⟨by rw [Vc,if_pos c1],hs.fin⟩
 ·refine S10 ?_;refine cV 18 (fun g1=> ?_) (fun g1=> ?_)
  ·refine S11 ?_;refine cZ (fun c2=> ?_) (fun c2=> ?_)
   ·refine S7 ?_;refine jJ J (.tmp J) ?_
    intro w' hs
    exact⟨by unfold Vc;rw [if_neg (fun h=>h c1)];simp_all,hs.fin⟩
   ·refine S7 ?_;refine cV 29 (fun g2=> ?_) (fun g2=> ?_)
    ·refine S9 ?_;refine cZ (fun c3=> ?_) (fun c3=> ?_)
     ·refine S7 ?_;refine jJ J (.tmp J) ?_
      intro w' hs
      exact⟨by unfold Vc;rw [if_neg (fun h=>h c1)];simp_all,hs.fin⟩
     ·refine S8 ?_;refine jJ J (.tmp J) ?_
      intro w' hs
      exact⟨by unfold Vc;rw [if_neg (fun h=>h c1)];simp_all,hs.fin⟩
    ·refine S15 ?_;refine jJ J (.tmp J) ?_
     intro w' hs
     exact⟨by unfold Vc;rw [if_neg (fun h=>h c1)];simp_all,hs.fin⟩
  ·refine S15 ?_;refine cV 29 (fun g3=> ?_) (fun g3=> ?_)
   ·refine S9 ?_;refine cZ (fun c4=> ?_) (fun c4=> ?_)
    ·refine S7 ?_;refine jJ J (.tmp J) ?_
     intro w' hs
     exact⟨by unfold Vc;rw [if_neg (fun h=>h c1)];simp_all,hs.fin⟩
    ·refine S8 ?_;refine jJ J (.tmp J) ?_
     intro w' hs
     exact⟨by unfold Vc;rw [if_neg (fun h=>h c1)];simp_all,hs.fin⟩
   ·refine S15 ?_;refine jJ J (.tmp J) ?_
    intro w' hs
    exact⟨by unfold Vc;rw [if_neg (fun h=>h c1)];simp_all,hs.fin⟩
theorem PA {w:World} {B n:Nat} (hrow: (JS B 210 5 n (l.flatMap Wy.cells) x).P w) (hl:l.length=n) (hb:∀e∈l,bd1 e.num e.den) (hn:n≤1099511627776) :
  Calls Tryz.prog 173 #[.slice x.1 n x.2, .func (.func 174) #[] #[]] w fun e w'=>e= .returned (.tuple #[])∧Wrs (JS B 210 5 n (l.flatMap Wy.cells) x).F w w'∧(JS 0 210 5 n ((Ki (QI Vc) l).flatMap Wy.cells) x).P w':=by
 have hrow':w.ownsRow B 210 5 (.slice x.1 n x.2) n (l.flatMap Wy.cells) :=hrow
 rcases hrow'.2 with⟨e,e2⟩ |⟨g,cap,cur,e,hbg,hg,hcap,hmax,hsz,htk⟩
 ·subst e2
  obtain rfl:l= [] :=jiE hl
  refine(PC x.1 x.2 _ w).mono ?_
  rintro e' w' ⟨rfl,hO⟩
  refine⟨J,Wrs.of hO,?_⟩
  show w'.ownsRow 0 210 5 (.slice x.1 0 x.2) 0 _
  rw [e]
  exact World.ownsRow_nil _ _ _ _
 ·injection e with e1 e3 e4
  have hF:∀b,b=g→(JS B 210 5 n (l.flatMap Wy.cells) x).F b:=by
   rintro b rfl
   show Value.ownBlock (.slice x.1 n x.2) =some _
   rw [e1]
   rfl
  have hcl:cur.toList.length=cap*5:=by simp [hsz]
  have hcur:cur= (WE (l++ []) (cur.toList.drop (n*5))).toArray:=by
   rw [jiC,WE,←htk,jiq,jjd]
  have hC:CmpW w g (·∈l) Vc:=⟨fun u hu v hv w' ho=>Dq u v w' (hb u hu) (hb v hv),EA⟩
  have:=jfi g 210 (cur.toList.drop (n*5)) l [] n x.2 _ _ w hC (by rw [←hcur];exact hg) hl hn (fun u hu=>hu)
  rw [e1]
  refine this.mono ?_
  rintro e' w' ⟨rfl,hw,hh⟩
  refine⟨J,⟨hw.os,hw.tape,hw.output,hw.size,fun c hc hnc=>hw.block c hc (fun ec=>hnc (hF c ec))⟩,?_⟩
  rw [jiC] at hh
  have hml: ((Ki (QI Vc) l).flatMap Wy.cells).length=n*5:=by rw [Gd,Qs,hl]
  refine⟨hml, .inr ⟨g,x.2,_,by rw [e1],jie _,hh,by rw [e4];exact hcap,by rw [e4];exact hmax,?_,?_⟩⟩
  ·rw [ji1,WE,jid,hml,jiy,hcl,e4]
   omega
  ·rw [jjj,WE,List.take_append_of_le_length Om,jiu Om]
theorem ZZ (p:Pn) (t:Int) (w:World) (hp:YZ p) (ht: -1152921504606846976≤t∧t≤1152921504606846976) :Calls Tryz.prog 171 #[pV p, .int .i64 t] w fun e w'=>e= .returned (.int .i64 (Wv (p.2- t)))∧Over w w':=by
 obtain ⟨⟨p1,p2⟩,p3,p4⟩ :=hp
 refine jK (m:=10) (Tryz.func171) J J (lb J) ?_;refine S3 ?_;refine aX (fun b1=> ?_);refine N8 ?_;refine a9 (jG Q3 J J (fun w h=>Calls.still (Ku _ w))) ?_;refine S3 ?_;refine jJ J (.tmp J) ?_
 intro w' hs
 exact⟨rfl,hs.fin⟩
def xK (xs:List Pn) (t:Int) :Nat:= (xs.takeWhile fun p=>decide (p.2<t)).length
theorem jbA:∀ {xs:List Pn} {t:Int} {i:Nat},i≤xs.length→(∀k,k<i→py xs k<t)→(i<xs.length→t≤py xs i)→xK xs t=i
 | [],_,i,h,_,_=>by simp at h;subst h;rfl
 | p::xs,t,0,_,_,h3=>by
  have:=h3 (by simp)
  have e:py (p::xs) 0=p.2:=rfl
  unfold xK
  rw [List.takeWhile_cons_of_neg (by simp;omega)]
  rfl
 | p::xs,t,i+1,h1,h2,h3=>by
  have e:py (p::xs) 0=p.2:=rfl
  have h0:=h2 0 Om
  have ek:∀k,py (p::xs) (k+1) =py xs k:=fun k=>by simp [py]
  unfold xK
  rw [List.takeWhile_cons_of_pos (by simp;omega),jij]
  have:=jbA (xs:=xs) (t:=t) (i:=i) (by simpa using h1) (fun k hk=>by have:=h2 (k+1) Om;rwa [ek] at this) (fun hi=>by have:=h3 (by simpa using hi);rwa [ek] at this)
  unfold xK at this
  omega
def pt2 (xs:List Pn) (k:Nat) :Int:=py xs k
def Mj (xs:List Pn) :Prop:=∀k j,k≤j→j<xs.length→py xs k≤py xs j
theorem jbp (h:Asc xs) :Mj xs:=fun k j hkj hj=>by
 rcases jjt hkj with h1 | rfl
 ·have:=jjc.1 h k j Om hj h1
  rw [kB,kB] at this
  unfold ww pt at this
  simp only at this
  omega
 ·exact Int.le_refl _
theorem Gf (A:Option Addr) (n c:Nat) (xs:List Pn) (t:Int) (w:World) (h:Pts w A n xs) (hx:∀p∈xs,YZ p) (ht: -1152921504606846976≤t∧t≤1152921504606846976) (hm:Mj xs) (hn:n≤1099511627776) :
  Calls Tryz.prog 170 #[.slice A n c, .int .i64 t, .func (.func 171) #[] #[]] w fun e w'=>e= .returned (.tuple #[.int .i64 ((xK xs t:Nat) :Int), .bool (decide (xK xs t<n) &&decide (Wv (py xs (xK xs t) - t) =0))])∧Over w w':=by
 have hl:=h.1
 have hbd:∀k,k<n→YZ (pt xs k) :=fun k hk=>hx _ (by rw [←kB Om];exact jir _)
 refine jK (m:=49) (Tryz.func170) J J (lb J) ?_;refine S19 ?_;refine qj (X:=Nat×Nat) (fun q=>q.1≤q.2∧q.2≤n∧(∀k,k<q.1→py xs k<t)∧(∀k,q.2≤k→k<n→t≤py xs k)) (fun q=>q.2- q.1) (fun q=> [(9, .int .i64 (q.1:Int)),(10, .int .i64 (q.2:Int))]) (kK [0,1,2,6,7,8]) (0,n) (⟨jie _,jif _,fun k hk=>absurd hk (by simp),fun k h1 h2=>absurd (jio h2 h1) (Nat.lt_irrefl _)⟩) ⟨J,sz⟩ ?_
 intro⟨i,j⟩ hq L hL1
 refine v9 ?_
 obtain ⟨q1,q2,q3,q4⟩ :i≤j∧j≤n∧(∀k,k<i→py xs k<t)∧(∀k,j≤k→k<n→t≤py xs k) :=hq
 refine S7 ?_;refine cZ (fun c1=> ?_) (fun c1=> ?_)
 ·have hij:i<j:=Om
  obtain ⟨eb,eo,rfl,_⟩ :=h.2 Om
  refine S8 ?_;refine a9 (ku J Tryz.underlying3 Tryz.underlying184 J (Yk _ Om Om)) ?_;refine a9 (uV (q:=1) J J J Dc Dc) ?_;refine a9 ((ku J Tryz.underlying184 Tryz.underlying3 J (Ua _ (by simp;omega) (by simp;omega))).as (congrArg _ (show(((i:Int) + (j:Int)) /2^ (Int.toNat 1)) = (((i+j) /2:Nat) :Int) by simp))) ?_;refine S7 ?_;refine a9 (jH (j:= (i+j) /2) J J J jl Om) ?_;refine a9 (jk J J jj J (Q4 (b:=eb) (o:=eo) h Om)) ?_;refine S1 ?_;refine a9 (vV Uo J J J (fun w1 hs=>ZZ (pt xs ((i+j) /2)) t w1 (hbd _ Om) ht)) ?_;refine S2 ?_;refine cZ (fun c2=> ?_) (fun c2=> ?_)
  ·have hlow:py xs ((i+j) /2) <t:= (by have:=Ei.1 c2;simp only [pt] at this;omega)
   refine S7 ?_
   exact qa hL1 (((i+j) /2+1,j)) (⟨show(i+j) /2+1≤j by omega,q2,fun k hk=>by have:=hm k ((i+j) /2) (by simp only at hk;omega) Om;omega,q4⟩) (by simp only;omega) ⟨vi Om,sz⟩ (u9 J)
  ·have hlow:t≤py xs ((i+j) /2) :=jjn.1 fun hh=>by have:=Ei.2 (show pt2 xs ((i+j) /2) - t<0 by unfold pt2;omega);unfold pt2 at this;simp only [pt] at c2;omega
   refine S6 ?_
   exact qa hL1 ((i,(i+j) /2)) (⟨show i≤(i+j) /2 by omega,show(i+j) /2≤n by omega,q3,fun k h1 h2=>by have:=hm ((i+j) /2) k h1 Om;omega⟩) (by simp only;omega) ⟨J,sz⟩ (u9 J)
 ·have hij:i=j:=Om
  subst hij
  have hbs:xK xs t=i:=jbA Om q3 (fun hi=>q4 i (jif _) Om)
  refine S12 ?_;refine cV 39 (fun g1=> ?_) (fun g1=> ?_)
  ·have hin:i<n:=Om
   obtain ⟨eb,eo,rfl,_⟩ :=h.2 Om
   refine S7 ?_;refine o9 (jH (j:=i) J J J jl Om) ?_;refine h9 ?_;refine o9 (jk J J jj J (Q4 (b:=eb) (o:=eo) h hin)) ?_;refine S3 ?_;refine o9 (vV Uo J J J (fun w1 hs=>ZZ (pt xs i) t w1 (hbd _ hin) ht)) ?_;refine S7 ?_;refine JX J (.tmp J) (.tmp J) ?_
   intro w' hs
   exact⟨by rw [hbs,show decide (i<n) =true from decide_eq_true hin,jiJ];rfl,hs.fin⟩
  ·refine S13 ?_;refine JX J (.tmp J) (.tmp J) ?_
   intro w' hs
   exact⟨by rw [hbs,show decide (i<n) =false from decide_eq_false Om,jiS],hs.fin⟩
theorem jed (b3:Nat) (a b:Pn) (w:World) (h:Pts w (some ⟨b3,0,none⟩) 2 [a,b]) :Calls Tryz.prog 169 #[.slice (some ⟨b3,0,none⟩) 2 2] w fun e w'=>e= .returned (.tuple #[ub (min a.1 b.1) (min a.2 b.2),ub (max a.1 b.1) (max a.2 b.2)])∧Over w w':=by
 have:=FU _ 2 2 [a,b] w h Dc Dc Dc
 exact this
def wkS (a b p:Pn) :Sp:=if uG WG (2*a.1) (2* (b.1- a.1)) (2*p.1- 1) =true then VO (VO WG (2*a.1) (2* (b.1- a.1)) (2*p.1- 1)) (2*a.2) (2* (b.2- a.2)) (2*p.2- 1) else VO WG (2*a.1) (2* (b.1- a.1)) (2*p.1- 1)
theorem jhf (h:ui a b p=true) :wkS a b p=J6 a b p:=by
 obtain ⟨h1,h2⟩ :=EU a b p h
 rw [wkS,if_pos h1,h2]
theorem T8 (a b p:Pn) (w:World) (ha:wX a.1 a.2=true) (hb:wX b.1 b.2=true) (hp:wX p.1 p.2=true) :
  Calls Tryz.prog 172 #[pV a,pV b,pV p] w fun e w'=>e= .returned (.tuple #[jf4 (wkS a b p), .bool (ui a b p)])∧Over w w':=by
 have:=Du a.1 a.2 b.1 b.2 p.1 p.2 w ha hb hp
 rw [←R3] at this
 exact this
theorem RT (h:p.1<min a.1 b.1- 1) :U7 a b p=false:=by unfold U7;rw [decide_eq_true h];rfl
theorem EP (h:min a.1 b.1- 1≤p.1) :decide (p.1>max a.1 b.1+1) = !U7 a b p:=by unfold U7;rw [decide_eq_false (jjn.2 h),Bool.false_or,Bool.not_not]
theorem Y3 (h1:min a.2 b.2- 1≤p.2) (h2:p.2≤max a.2 b.2+1) :Y2 a b p=true:=by unfold Y2;rw [decide_eq_false (jjn.2 h1),decide_eq_false (jjn.2 h2)];rfl
theorem To (h:U7 a b p=false) :K3 a b p=false:=by simp [K3,h]
theorem Tp (h:Y2 a b p=false) :K3 a b p=false:=by simp [K3,h]
theorem XG (h:ui a b p=false) :K3 a b p=false:=by simp [K3,h]
theorem yu (h1:U7 a b p=true) (h2:Y2 a b p=true) (h3:ui a b p=true) :K3 a b p=true:=by simp [K3,h1,h2,h3]
theorem Rm (hk:k<ys.length) (h:K3 a b (pt ys k) =false) :KU a b (ys.take (k+1)) =KU a b (ys.take k) :=by
 rw [X3 hk,X8,Hv (l:= [pt ys k]) (fun p hp=>by rw [jin.1 hp];exact h),jiC]
theorem Ey (hk:k<ys.length) (h:K3 a b (pt ys k) =true) :KU a b (ys.take (k+1)) =KU a b (ys.take k) ++ [Dy a b (pt ys k)] :=by
 rw [X3 hk,X8,jdY h]
theorem jgD (h:p∈xs) :∃k,k<xs.length∧pt xs k=p:=by
 obtain ⟨k,hk,e⟩ :=jiU h
 exact⟨k,hk,by rw [←e,kB hk]⟩
theorem L6 (xs:List Pn) (i k:Nat) :pt (xs.drop i) k=pt xs (i+k) :=by
 simp only [pt,px,py,List.getD_eq_getElem?_getD,List.getElem?_drop]
theorem FW:∀(xs:List Pn) (t:Int),xK xs t≤xs.length∧(∀p∈xs.take (xK xs t),p.2<t)∧(xK xs t<xs.length→t≤py xs (xK xs t))
 | [],t=>⟨jif _,fun p hp=>by simp at hp,fun h=>absurd h (by simp [xK])⟩
 | p::xs,t=>by
  obtain ⟨h1,h2,h3⟩ :=FW xs t
  by_cases hp:p.2<t
  ·have e:xK (p::xs) t=xK xs t+1:=by
    unfold xK
    rw [List.takeWhile_cons_of_pos (by simpa using hp),jij]
   rw [e]
   refine⟨by simpa using h1,fun q hq=> ?_,fun h=> ?_⟩
   ·rw [List.take_succ_cons] at hq
    rcases jis.1 hq with rfl | hq
    ·exact hp
    ·exact h2 q hq
   ·have:=h3 (by simpa using h)
    have ek:py (p::xs) (xK xs t+1) =py xs (xK xs t) :=by simp [py]
    rw [ek]
    exact this
  ·have e:xK (p::xs) t=0:=by
    unfold xK
    rw [List.takeWhile_cons_of_neg (by simpa using hp)]
    rfl
   rw [e]
   exact⟨jie _,fun q hq=>by simp at hq,fun _=>by have:py (p::xs) 0=p.2:=rfl;omega⟩
theorem jfA :KU a b (xs.drop (xK xs (min a.2 b.2- 1))) =KU a b xs:=by
 obtain ⟨h1,h2,h3⟩ :=FW xs (min a.2 b.2- 1)
 conv=>rhs;rw [←jiq (xK xs (min a.2 b.2- 1)) xs]
 rw [X8,Hv (l:=xs.take _) (fun p hp=>Tp (by have:=h2 p hp;simp [Y2,this])),jiV]
theorem jdZ (hm:Mj ys) (hk:k<ys.length) (h:py ys k>max a.2 b.2+1) :KU a b (ys.take k) =KU a b ys:=by
 conv=>rhs;rw [←jiq k ys]
 rw [X8,Hv (l:=ys.drop k) (fun p hp=>Tp ?_),jiC]
 obtain ⟨j,hj,rfl⟩ :=jgD hp
 rw [jiy] at hj
 rw [L6]
 have:=hm k (k+j) Om Om
 have e: (pt ys (k+j)).2=py ys (k+j) :=rfl
 simp [Y2,e]
 omega
theorem jaq (h:Mj xs) (i:Nat) :Mj (xs.drop i) :=fun k j hkj hj=>by
 rw [jiy] at hj
 have e:∀k,py (xs.drop i) k=py xs (i+k) :=fun k=>by have:=L6 xs i k;simp only [pt] at this;injection this
 rw [e,e]
 exact h _ _ Om Om
theorem jgw (hm:Mj xs) (hk:k< (xs.drop (xK xs (min a.2 b.2- 1))).length) :min a.2 b.2- 1≤py (xs.drop (xK xs (min a.2 b.2- 1))) k:=by
 obtain ⟨h1,h2,h3⟩ :=FW xs (min a.2 b.2- 1)
 rw [jiy] at hk
 have e:py (xs.drop (xK xs (min a.2 b.2- 1))) k=py xs (xK xs (min a.2 b.2- 1) +k) :=by have:=L6 xs (xK xs (min a.2 b.2- 1)) k;simp only [pt] at this;injection this
 rw [e]
 have:=hm (xK xs (min a.2 b.2- 1)) (xK xs (min a.2 b.2- 1) +k) Om Om
 have:=h3 Om
 omega
theorem Px {n c i:Nat} (hi:i≤n) (hc:n≤c) :∃A',sliced A i n c 2= .slice A' (n- i) (c- i)∧∀ {w:World} {xs:List Pn},Pts w A n xs→Pts w A' (n- i) (xs.drop i) :=by
 by_cases h0:i<n
 ·cases A with
  | none=>exact⟨none,by simp [sliced],fun h=>absurd (h.2 Om) (by rintro⟨b,o,e,_⟩;cases e)⟩
  | some p=>
   by_cases hp:p.spot=none
   ·obtain ⟨b,o,v⟩ :=p
    cases hp
    exact⟨_,uY hc hi,fun h=>h.dropT hi hc⟩
   ·refine⟨_,J,fun {w xs} h=> ?_⟩
    obtain ⟨b,o,e,_⟩ :=h.2 Om
    injection e with e
    subst e
    exact absurd rfl hp
 ·obtain rfl:i=n:=by omega
  refine⟨_,J,fun {w xs} h=>⟨by rw [jiy,h.1],fun h=>absurd h Om⟩⟩
theorem jfa {w0:Bs} {Rs:List Res} {B T m g c j:Nat} (hk:Rs[k]? =some (JS B T 5 m (l.flatMap Wy.cells) (some ⟨g,0,none⟩,c))) (he:l[j]? =some e) :∀w',St w0 Rs w'→∀q v,e.cells[q]? =some v→w'.cell? ⟨g,0+j*5+q,none⟩ =some v:=fun w' hs q v hv=>by
 have h:w'.ownsRow B T 5 (.slice (some ⟨g,0,none⟩) m c) m (l.flatMap Wy.cells) := (hs.all k _ hk).1
 have:=jd1 (tl:= []) he hv
 rw [WE,jiC] at this
 have:=h.cells rfl _ v this
 rw [Q1] at this
 rw [jiB] at this⊢
 exact this
theorem jaA {L:List Wy} (h:L[k]? =some e) : ((L.map fun e=> (e.x,e.y)).take k).flatMap jV++ [.int .i64 e.x, .int .i64 e.y] = ((L.map fun e=> (e.x,e.y)).take (k+1)).flatMap jV:=by
 obtain ⟨hk,rfl⟩ :=List.getElem?_eq_some_iff.1 h
 rw [jik (by simpa using hk),jii]
 simp [jV]
theorem I8 (a b:Pn) (A:Option Addr) (n c:Nat) (hot:List Pn) (w:World) (h:Pts w A n hot) (ha:wX a.1 a.2=true) (hb:wX b.1 b.2=true) (hh:∀p∈hot,wX p.1 p.2=true) (hasc:Asc hot) (hc:n≤c) (hn:n≤1048576) :
  Calls Tryz.prog 114 #[pV a,pV b, .slice A n c] w fun e w'=>∃v,e= .returned v∧w'.ownsRow w.heap.size 28 2 v (Qv a b hot).length ((Qv a b hot).flatMap jV)∧Over w w':=by
 have hl:=h.1
 have hmono:=jbp hasc
 obtain ⟨hi1,hi2,hi3⟩ :=FW hot (min a.2 b.2- 1)
 have ha2:bd2 a:=Wi ha
 have hb2:bd2 b:=Wi hb
 have hp2:∀p∈hot,bd2 p:=fun p hp=>Wi (hh p hp)
 obtain ⟨⟨a1,a2⟩,a3,a4⟩ :=id ha2
 obtain ⟨⟨b1',b2'⟩,b3',b4'⟩ :=id hb2
 obtain ⟨i,hi⟩ :∃i,i=xK hot (min a.2 b.2- 1) :=⟨_,rfl⟩
 obtain ⟨A',eA,hA'⟩ :=Px (A:=A) (n:=n) (c:=c) (i:=i) Om hc
 obtain ⟨ys,hys⟩ :∃ys,ys=hot.drop i:=⟨_,rfl⟩
 have hyl:ys.length=n- i:=by rw [hys,jiy,hl]
 have hyp:Pts w A' (n- i) ys:=hys▸hA' h
 have hym:Mj ys:=hys▸jaq hmono i
 have hylow:∀k,k<ys.length→min a.2 b.2- 1≤py ys k:=fun k hk=>by subst hys hi;exact jgw hmono hk
 have hway:KU a b ys=KU a b hot:=by subst hys hi;exact jfA
 have hymem:∀k,k<ys.length→pt ys k∈hot:=fun k hk=>by rw [hys] at hk⊢;rw [L6,←kB (by rw [jiy] at hk;omega)];exact jir _
 have hwl:=T9 a b hot
 have hwl2:∀k,(KU a b (ys.take k)).length≤1048576:=fun k=>by have:=T9 a b (ys.take k);rw [jim] at this;omega
 have hwb:∀e∈KU a b hot,bd1 e.num e.den:=fun e he=>by
  obtain ⟨p,hp,rfl⟩ :=jdX he
  exact(Fj ha2 hb2 (hp2 p hp)).low
 have hpl: (Qv a b hot).length= (KU a b hot).length:=by rw [Qv,jip,Qs]
 have hsl: (Ki (QI Vc) (KU a b hot)).length= (KU a b hot).length:=Qs _
 refine jK (m:=93) (Tryz.func114) J J (lb J) ?_;refine S3 ?_;refine aX (fun b1=> ?_);refine N1 ?_;refine aX (fun b2=> ?_);refine N7 ?_;refine jX J J (Kc J J) J (lb J) (fun b3=> ?_);refine n9 ?_;refine a9 (jG GJ J J (fun w1 hs=>jed _ a b w1 (zS (k:=2) _ J J w1 hs))) ?_;refine S4 ?_;refine aL (fun b4=> ?_);refine N1 ?_;refine aL (fun b5=> ?_);refine N11 ?_;refine a9 (jG KF J J (fun w1 hs=>Gf A n c hot (min a.2 b.2- 1) w1 (h.over hs.fin) (fun p hp=> (hp2 p hp).wide) Om hmono Om)) ?_;refine S9 ?_;refine Q7 (T:=210) (s:=5) ?_;refine N1 ?_;refine Uz (X:=Option Addr×Nat) (fun x=>True) (fun x=> [(11, .slice x.1 (KU a b hot).length x.2)]) (kK [6]) (fun x=> [.cel b1 28 [.int .i64 a.1, .int .i64 a.2], .cel b2 28 [.int .i64 b.1, .int .i64 b.2], .cel b3 28 [.int .i64 a.1, .int .i64 a.2, .int .i64 b.1, .int .i64 b.2], .cel b4 28 [.int .i64 (min a.1 b.1), .int .i64 (min a.2 b.2)], .cel b5 28 [.int .i64 (max a.1 b.1), .int .i64 (max a.2 b.2)],JS (Bs.N ⟨w,[]⟩) 210 5 (KU a b hot).length ((KU a b hot).flatMap Wy.cells) x]) (fun L h_0=> ?_) ?_
 ·refine S1 ?_
  rw [←hi]
  refine S3 ?_;refine a9 ((KZ J J J jl Om).as (eA)) ?_;refine S4 ?_;refine JE (X:=Nat×Option Addr×Nat) (fun x=>x.1≤n- i) (fun x=>n- i- x.1) (fun x=> [(11, .slice x.2.1 (KU a b (ys.take x.1)).length x.2.2),(38, .int .i64 (x.1:Int))]) (kK [3,4,6,7,8,36,37]) (fun x=> [.cel b1 28 [.int .i64 a.1, .int .i64 a.2], .cel b2 28 [.int .i64 b.1, .int .i64 b.2], .cel b3 28 [.int .i64 a.1, .int .i64 a.2, .int .i64 b.1, .int .i64 b.2], .cel b4 28 [.int .i64 (min a.1 b.1), .int .i64 (min a.2 b.2)], .cel b5 28 [.int .i64 (max a.1 b.1), .int .i64 (max a.2 b.2)],JS (Bs.N ⟨w,[]⟩) 210 5 (KU a b (ys.take x.1)).length ((KU a b (ys.take x.1)).flatMap Wy.cells) x.2]) (0,none,0) (jie _) ⟨J,sz⟩ (fun _ h=>h) ?_
  intro⟨k,rA,rc⟩ hx L hL1
  refine v9 ?_;refine r9 ?_
  have hk:k≤n- i:=hx
  refine S5 ?_;refine cZ (fun c1=> ?_) (fun c1=> ?_)
  ·have hlt:k<n- i:=Om
   obtain ⟨eb,eo,rfl,_⟩ :=hyp.2 Om
   have hpm:=hymem k Om
   have hlo:=hylow k Om
   obtain ⟨⟨p1,p2⟩,p3,p4⟩ :=hp2 _ hpm
   have hwk:=hwl2 k
   refine S7 ?_;refine a9 (jk J J jj J (Q4 (b:=eb) (o:=eo) hyp hlt)) ?_;refine S1 ?_;refine aL (fun b6=> ?_);refine N13 ?_;refine cZ (fun c2=> ?_) (fun c2=> ?_)
   ·rw [jdZ (a:=a) (b:=b) hym Om Om,hway]
    refine S7 ?_
    exact Ka h_0 ((rA,rc)) (trivial) ⟨J,sz⟩ (fun _ h=>h.picks [0,1,2,3,4,5] Dc)
   ·refine S3 ?_;refine qr [(61, .bool (!U7 a b (pt ys k)))] (kK [3,4,6,7,8,36,37,11,38,39,40,41,13,42,43,44,45,46,47]) (fun L h_8=> ?_) ?_
    ·refine S8 ?_;refine cV 54 (fun g1=> ?_) (fun g1=> ?_)
     ·refine S8 ?_
      exact Js h_8 ⟨vb (by rw [RT (p:=pt ys k) (by show px ys k<_;omega)];rfl),sz⟩ (u9 J)
     ·refine S14 ?_
      exact Js h_8 ⟨vb (EP (p:=pt ys k) (by show _≤px ys k;omega)),sz⟩ (u9 J)
    ·refine v9 ?_;refine cZ (fun c3=> ?_) (fun c3=> ?_)
     ·refine S8 ?_
      exact Jd hL1 ((k+1,rA,rc)) ((show k+1≤n- i by omega)) (by simp only;omega) ⟨(by rw [Rm Om (To (by simpa using c3))];rfl),vi Om,sz⟩ (fun _ h=>h.upto ⟨J,J,J,J,J,by rw [Rm Om (To (by simpa using c3))],trivial⟩)
     ·refine S7 ?_;refine a9 (jG Xw J J (fun w1 hs=>T8 a b (pt ys k) w1 ha hb (hh _ hpm))) ?_;refine S4 ?_;refine aL (fun b7=> ?_);refine N8 ?_;refine cZ (fun c4=> ?_) (fun c4=> ?_)
      ·rw [jhf c4]
       refine S5 ?_;refine a9 (JF J J (YJ J J)) ?_;refine S1 ?_;refine jX J J (US J) J (lb J) (fun b8=> ?_);refine N1 ?_;refine JK (k:=5) J JD Qd Dc J Dc J J J (fun w' hs=>qD hs (k:=8) J J) (by simp [Value.oneCell']) (by unfold maxLen;omega) Om (jif _) (fun r1=> ?_);refine N8 ?_
       exact Jd hL1 ((k+1,r1)) ((show k+1≤n- i by omega)) (by simp only;omega) ⟨(by rw [Ey Om (yu (by simpa using c3) (Y3 hlo (by show py ys k≤_;omega)) c4),jid];rfl),vi Om,sz⟩ (fun _ h=>h.upto ⟨J,J,J,J,J,by rw [Ey Om (yu (by simpa using c3) (Y3 hlo (by show py ys k≤_;omega)) c4),jid,jii];rfl,trivial⟩)
      ·refine S7 ?_
       exact Jd hL1 ((k+1,rA,rc)) ((show k+1≤n- i by omega)) (by simp only;omega) ⟨(by rw [Rm Om (XG c4)];rfl),vi Om,sz⟩ (fun _ h=>h.upto ⟨J,J,J,J,J,by rw [Rm Om (XG c4)],trivial⟩)
  ·rw [jiu Om,hway]
   refine S5 ?_
   exact Ka h_0 ((rA,rc)) (trivial) ⟨J,sz⟩ (fun _ h=>h.picks [0,1,2,3,4,5] Dc)
 ·rintro⟨sA,sc⟩ -
  refine v9 ?_;refine r9 ?_;refine S4 ?_;refine vT (k:=5) (r':=JS 0 210 5 (KU a b hot).length ((Ki (QI Vc) (KU a b hot)).flatMap Wy.cells) (sA,sc)) Kj J J J Dc J (fun w1 hs=>PA (hs.all 5 _ J).1 J hwb Om) (fun _ h=>h) J ?_;refine N4 ?_;refine Q7 (T:=28) (s:=2) ?_;refine N9 ?_;refine JE (X:=Nat×Option Addr×Nat) (fun y=>y.1≤(KU a b hot).length) (fun y=> (KU a b hot).length- y.1) (fun y=> [(16, .slice y.2.1 y.1 y.2.2),(82, .int .i64 (y.1:Int))]) (kK [6,80,81]) (fun y=> [.cel b1 28 [.int .i64 a.1, .int .i64 a.2], .cel b2 28 [.int .i64 b.1, .int .i64 b.2], .cel b3 28 [.int .i64 a.1, .int .i64 a.2, .int .i64 b.1, .int .i64 b.2], .cel b4 28 [.int .i64 (min a.1 b.1), .int .i64 (min a.2 b.2)], .cel b5 28 [.int .i64 (max a.1 b.1), .int .i64 (max a.2 b.2)],JS 0 210 5 (KU a b hot).length ((Ki (QI Vc) (KU a b hot)).flatMap Wy.cells) (sA,sc),JS (Bs.N ⟨w,[]⟩) 28 2 y.1 (((Qv a b hot).take y.1).flatMap jV) y.2]) (0,none,0) (jie _) ⟨J,sz⟩ (fun _ h=>h) ?_
  intro⟨j,qA,qc⟩ hy L hL2
  refine v9 ?_;refine r9 ?_
  have hj:j≤(KU a b hot).length:=hy
  refine S5 ?_;refine cZ (fun c5=> ?_) (fun c5=> ?_)
  ·have hlt:j< (KU a b hot).length:=Om
   refine qR (fun w hs=>kI (k:=5) J hs Om) ?_
   rintro⟨eg,rfl⟩
   obtain ⟨e,he⟩ :∃e,(Ki (QI Vc) (KU a b hot))[j]? =some e:=⟨_,List.getElem?_eq_getElem Om⟩
   refine S6 ?_;refine a9 (jH (j:=j) J J J JD Om) ?_;refine a9 (jk J J qk J (jfa (k:=5) J he)) ?_;refine S1 ?_;refine aL (fun b9=> ?_);refine N8 ?_;refine jX J J (J9 J) J (lb J) (fun b10=> ?_);refine N1 ?_;refine JK (k:=6) J jl jD Dc J Dc J J J (fun w' hs=>qD hs (k:=8) J J) (by simp [Value.oneCell']) (by unfold maxLen;omega) Om (jif _) (fun r2=> ?_);refine N8 ?_
   exact Jd hL2 ((j+1,r2)) ((show j+1≤(KU a b hot).length by omega)) (by simp only;omega) ⟨J,vi Om,sz⟩ (fun _ h=>h.upto ⟨J,J,J,J,J,J,by rw [Qv,←jaA he],trivial⟩)
  ·have hje:j= (KU a b hot).length:=Om
   subst hje
   rw [jiu Om]
   refine S11 ?_;refine jJ J (.tmp J) ?_
   intro w' hs
   have hr:=hs.all 6 _ rfl
   exact⟨_,rfl,Q5 (by rw [hpl];exact hr.1) (fun b hb=> (hr.2.1 b hb).elim id (fun h=>by cases h)),hs.fin⟩
end Go.Proofs.YtbahojdbmmjkcaaGreat
