import Derived.Test.YtpncbbcmoiiipaaMPathP
import Derived.Test.YtpncbbcmoiiipaaMRegion
import Derived.Test.YtpncbbcmoiiipaaMSnapped
set_option linter.unusedVariables false
set_option linter.unusedSimpArgs false
namespace Go.Proofs.Ytpncbbcmoiiipaa
open Go Go.RowKit
set_option maxRecDepth 100000
set_option maxHeartbeats 4000000
theorem yM (x y:Wy) (w:World) (hx:MP x.num x.den) (hy:MP y.num y.den) :Calls Try.prog 62 #[x.val,y.val] w fun e w'=>e= .returned (.int .i64 (Q1 x y))∧Over w w':=by
 refine Jh (m:=34) (Try.func62) J J (lb J) ?_;refine S3 ?_;refine aX (fun b1=> ?_);refine N1 ?_;refine aX (fun b2=> ?_);refine N9 ?_;refine a9 (jN Qp J J (fun w1 hs=>kd _ _ _ _ _ _ w1 hx hy)) ?_;refine S7 ?_;refine cZ (fun c1=> ?_) (fun c1=> ?_)
 ·refine S7 ?_;refine jG J (.tmp J) ?_
  intro w' hs
  exact⟨by rw [Q1,if_pos c1],hs.fin⟩
 ·refine Dg ?_;refine cV 18 (fun g1=> ?_) (fun g1=> ?_)
  ·refine Dh ?_;refine cZ (fun c2=> ?_) (fun c2=> ?_)
   ·refine S7 ?_;refine jG J (.tmp J) ?_
    intro w' hs
    exact⟨by unfold Q1;rw [if_neg (fun h=>h c1)];simp_all,hs.fin⟩
   ·refine S7 ?_;refine cV 29 (fun g2=> ?_) (fun g2=> ?_)
    ·refine S9 ?_;refine cZ (fun c3=> ?_) (fun c3=> ?_)
     ·refine S7 ?_;refine jG J (.tmp J) ?_
      intro w' hs
      exact⟨by unfold Q1;rw [if_neg (fun h=>h c1)];simp_all,hs.fin⟩
     ·refine S8 ?_;refine jG J (.tmp J) ?_
      intro w' hs
      exact⟨by unfold Q1;rw [if_neg (fun h=>h c1)];simp_all,hs.fin⟩
    ·refine Dl ?_;refine jG J (.tmp J) ?_
     intro w' hs
     exact⟨by unfold Q1;rw [if_neg (fun h=>h c1)];simp_all,hs.fin⟩
  ·refine Dl ?_;refine cV 29 (fun g3=> ?_) (fun g3=> ?_)
   ·refine S9 ?_;refine cZ (fun c4=> ?_) (fun c4=> ?_)
    ·refine S7 ?_;refine jG J (.tmp J) ?_
     intro w' hs
     exact⟨by unfold Q1;rw [if_neg (fun h=>h c1)];simp_all,hs.fin⟩
    ·refine S8 ?_;refine jG J (.tmp J) ?_
     intro w' hs
     exact⟨by unfold Q1;rw [if_neg (fun h=>h c1)];simp_all,hs.fin⟩
   ·refine Dl ?_;refine jG J (.tmp J) ?_
    intro w' hs
    exact⟨by unfold Q1;rw [if_neg (fun h=>h c1)];simp_all,hs.fin⟩
theorem xQ {w:World} {B n:Nat} {l:List Wy} {x:Option Addr×Nat} (hrow: (qx B 110 5 n (l.flatMap Wy.cells) x).P w) (hl:l.length=n) (hb:∀e∈l,MP e.num e.den) (hn:n≤1099511627776) :
  Calls Try.prog 61 #[.slice x.1 n x.2, .func (.func 62) #[] #[]] w fun e w'=>e= .returned (.tuple #[])∧Wrs (qx B 110 5 n (l.flatMap Wy.cells) x).F w w'∧(qx 0 110 5 n ((ki (QV Q1) l).flatMap Wy.cells) x).P w':=by
 have hrow':w.ownsRow B 110 5 (.slice x.1 n x.2) n (l.flatMap Wy.cells) :=hrow
 rcases hrow'.2 with⟨e,e2⟩ |⟨g,cap,cur,e,hbg,hg,hcap,hmax,hsz,htk⟩
 ·subst e2
  obtain rfl:l= [] :=Fd hl
  refine(xR x.1 x.2 _ w).mono ?_
  rintro e' w' ⟨rfl,hO⟩
  refine⟨J,Wrs.of hO,?_⟩
  show w'.ownsRow 0 110 5 (.slice x.1 0 x.2) 0 _
  rw [e]
  exact World.ownsRow_nil _ _ _ _
 ·injection e with e1 e3 e4
  have hF:∀b,b=g→(qx B 110 5 n (l.flatMap Wy.cells) x).F b:=by
   rintro b rfl
   show Value.ownBlock (.slice x.1 n x.2) =some _
   rw [e1]
   rfl
  have hcl:cur.toList.length=cap*5:=by simp [hsz]
  have hcur:cur= (k6 (l++ []) (cur.toList.drop (n*5))).toArray:=by
   rw [D7,k6,←htk,D1,Array.toArray_toList]
  have hC:CmpW w g (·∈l) Q1:=⟨fun u hu v hv w' ho=>yM u v w' (hb u hu) (hb v hv),Gb⟩
  have:=MG g 110 (cur.toList.drop (n*5)) l [] n x.2 _ _ w hC (by rw [←hcur];exact hg) hl hn (fun u hu=>hu)
  rw [e1]
  refine this.mono ?_
  rintro e' w' ⟨rfl,hw,hh⟩
  refine⟨J,⟨hw.os,hw.tape,hw.output,hw.size,fun c hc hnc=>hw.block c hc (fun ec=>hnc (hF c ec))⟩,?_⟩
  rw [D7] at hh
  have hml: ((ki (QV Q1) l).flatMap Wy.cells).length=n*5:=by rw [WT,q8,hl]
  refine⟨hml, .inr ⟨g,x.2,_,by rw [e1],DQ _,hh,by rw [e4];exact hcap,by rw [e4];exact hmax,?_,?_⟩⟩
  ·rw [Fz,k6,DK,hml,D5,hcl,e4]
   omega
  ·rw [Ic,k6,List.take_append_of_le_length Om,Fk Om]
theorem wD (p:Pn) (t:Int) (w:World) (hp:Z1 p) (ht: -1152921504606846976≤t∧t≤1152921504606846976) :Calls Try.prog 59 #[pV p, .int .i64 t] w fun e w'=>e= .returned (.int .i64 (KN (p.2- t)))∧Over w w':=by
 obtain ⟨⟨p1,p2⟩,p3,p4⟩ :=hp
 refine Jh (m:=10) (Try.func59) J J (lb J) ?_;refine S3 ?_;refine aX (fun b1=> ?_);refine N8 ?_;refine a9 (jN qL J J (fun w h=>Calls.still (Qv _ w))) ?_;refine S3 ?_;refine jG J (.tmp J) ?_
 intro w' hs
 exact⟨rfl,hs.fin⟩
def w7 (xs:List Pn) (t:Int) :Nat:= (xs.takeWhile fun p=>decide (p.2<t)).length
theorem Hj:∀ {xs:List Pn} {t:Int} {i:Nat},i≤xs.length→(∀k,k<i→py xs k<t)→(i<xs.length→t≤py xs i)→w7 xs t=i
 | [],_,i,h,_,_=>by simp at h;subst h;rfl
 | p::xs,t,0,_,_,h3=>by
  have:=h3 (by simp)
  have e:py (p::xs) 0=p.2:=rfl
  unfold w7
  rw [List.takeWhile_cons_of_neg (by simp;omega)]
  rfl
 | p::xs,t,i+1,h1,h2,h3=>by
  have e:py (p::xs) 0=p.2:=rfl
  have h0:=h2 0 Om
  have ek:∀k,py (p::xs) (k+1) =py xs k:=fun k=>by simp [py]
  unfold w7
  rw [List.takeWhile_cons_of_pos (by simp;omega),DT]
  have:=Hj (xs:=xs) (t:=t) (i:=i) (by simpa using h1) (fun k hk=>by have:=h2 (k+1) Om;rwa [ek] at this) (fun hi=>by have:=h3 (by simpa using hi);rwa [ek] at this)
  unfold w7 at this
  omega
def BP (xs:List Pn) (k:Nat) :Int:=py xs k
def Uw (xs:List Pn) :Prop:=∀k j,k≤j→j<xs.length→py xs k≤py xs j
theorem Hc {xs:List Pn} (h:Asc xs) :Uw xs:=fun k j hkj hj=>by
 rcases Fq9 hkj with h1 | rfl
 ·have:=FX.1 h k j Om hj h1
  rw [QK,QK] at this
  unfold Wb pt at this
  simp only at this
  omega
 ·exact Int.le_refl _
theorem WU (A:Option Addr) (n c:Nat) (xs:List Pn) (t:Int) (w:World) (h:Pts w A n xs) (hx:∀p∈xs,Z1 p) (ht: -1152921504606846976≤t∧t≤1152921504606846976) (hm:Uw xs) (hn:n≤1099511627776) :
  Calls Try.prog 58 #[.slice A n c, .int .i64 t, .func (.func 59) #[] #[]] w fun e w'=>e= .returned (.tuple #[.int .i64 ((w7 xs t:Nat) :Int), .bool (decide (w7 xs t<n) &&decide (KN (py xs (w7 xs t) - t) =0))])∧Over w w':=by
 have hl:=h.1
 have hbd:∀k,k<n→Z1 (pt xs k) :=fun k hk=>hx _ (by rw [←QK Om];exact DR _)
 refine Jh (m:=49) (Try.func58) J J (lb J) ?_;refine Dp ?_;refine qC (X:=Nat×Nat) (fun q=>q.1≤q.2∧q.2≤n∧(∀k,k<q.1→py xs k<t)∧(∀k,q.2≤k→k<n→t≤py xs k)) (fun q=>q.2- q.1) (fun q=> [(9, .int .i64 (q.1:Int)),(10, .int .i64 (q.2:Int))]) (kK [0,1,2,6,7,8]) (0,n) (⟨DQ _,DM _,fun k hk=>absurd hk (by simp),fun k h1 h2=>absurd (DS h2 h1) (Nat.lt_irrefl _)⟩) ⟨J,sz⟩ ?_
 intro⟨i,j⟩ hq L hL1
 refine v9 ?_
 obtain ⟨q1,q2,q3,q4⟩ :i≤j∧j≤n∧(∀k,k<i→py xs k<t)∧(∀k,j≤k→k<n→t≤py xs k) :=hq
 refine S7 ?_;refine cZ (fun c1=> ?_) (fun c1=> ?_)
 ·have hij:i<j:=Om
  obtain ⟨eb,eo,rfl,_⟩ :=h.2 Om
  refine S8 ?_;refine a9 (Qf J Try.underlying3 Try.underlying90 J (VY _ Om Om)) ?_;refine a9 (Vf (q:=1) J J J Dc Dc) ?_;refine a9 ((Qf J Try.underlying90 Try.underlying3 J (vl _ (by simp;omega) (by simp;omega))).as (congrArg _ (show(((i:Int) + (j:Int)) /2^ (Int.toNat 1)) = (((i+j) /2:Nat) :Int) by simp))) ?_;refine S7 ?_;refine a9 (jS (j:= (i+j) /2) J J J js Om) ?_;refine a9 (jj J J jh J (VS (b:=eb) (o:=eo) h Om)) ?_;refine S1 ?_;refine a9 (KV KS J J J (fun w1 hs=>wD (pt xs ((i+j) /2)) t w1 (hbd _ Om) ht)) ?_;refine S2 ?_;refine cZ (fun c2=> ?_) (fun c2=> ?_)
  ·have hlow:py xs ((i+j) /2) <t:= (by have:=XX.1 c2;simp only [pt] at this;omega)
   refine S7 ?_
   exact qy hL1 (((i+j) /2+1,j)) (⟨show(i+j) /2+1≤j by omega,q2,fun k hk=>by have:=hm k ((i+j) /2) (by simp only at hk;omega) Om;omega,q4⟩) (by simp only;omega) ⟨vi Om,sz⟩ (u9 J)
  ·have hlow:t≤py xs ((i+j) /2) :=FO.1 fun hh=>by have:=XX.2 (show BP xs ((i+j) /2) - t<0 by unfold BP;omega);unfold BP at this;simp only [pt] at c2;omega
   refine S6 ?_
   exact qy hL1 ((i,(i+j) /2)) (⟨show i≤(i+j) /2 by omega,show(i+j) /2≤n by omega,q3,fun k h1 h2=>by have:=hm ((i+j) /2) k h1 Om;omega⟩) (by simp only;omega) ⟨J,sz⟩ (u9 J)
 ·have hij:i=j:=Om
  subst hij
  have hbs:w7 xs t=i:=Hj Om q3 (fun hi=>q4 i (DM _) Om)
  refine Di ?_;refine cV 39 (fun g1=> ?_) (fun g1=> ?_)
  ·have hin:i<n:=Om
   obtain ⟨eb,eo,rfl,_⟩ :=h.2 Om
   refine S7 ?_;refine o9 (jS (j:=i) J J J js Om) ?_;refine h9 ?_;refine o9 (jj J J jh J (VS (b:=eb) (o:=eo) h hin)) ?_;refine S3 ?_;refine o9 (KV KS J J J (fun w1 hs=>wD (pt xs i) t w1 (hbd _ hin) ht)) ?_;refine S7 ?_;refine qS J (.tmp J) (.tmp J) ?_
   intro w' hs
   exact⟨by rw [hbs,show decide (i<n) =true from decide_eq_true hin,FB];rfl,hs.fin⟩
  ·refine Dj ?_;refine qS J (.tmp J) (.tmp J) ?_
   intro w' hs
   exact⟨by rw [hbs,show decide (i<n) =false from decide_eq_false Om,FH],hs.fin⟩
theorem LZ (b3:Nat) (a b:Pn) (w:World) (h:Pts w (some ⟨b3,0,none⟩) 2 [a,b]) :Calls Try.prog 57 #[.slice (some ⟨b3,0,none⟩) 2 2] w fun e w'=>e= .returned (.tuple #[vS (min a.1 b.1) (min a.2 b.2),vS (max a.1 b.1) (max a.2 b.2)])∧Over w w':=by
 have:=YI _ 2 2 [a,b] w h Dc Dc Dc
 exact this
def BX (a b p:Pn) :Sp:=if KB K8 (2*a.1) (2* (b.1- a.1)) (2*p.1- 1) =true then kk (kk K8 (2*a.1) (2* (b.1- a.1)) (2*p.1- 1)) (2*a.2) (2* (b.2- a.2)) (2*p.2- 1) else kk K8 (2*a.1) (2* (b.1- a.1)) (2*p.1- 1)
theorem OU {a b p:Pn} (h:K9 a b p=true) :BX a b p=Ji a b p:=by
 obtain ⟨h1,h2⟩ :=Gl a b p h
 rw [BX,if_pos h1,h2]
theorem ZN (a b p:Pn) (w:World) (ha:KD a.1 a.2=true) (hb:KD b.1 b.2=true) (hp:KD p.1 p.2=true) :
  Calls Try.prog 60 #[pV a,pV b,pV p] w fun e w'=>e= .returned (.tuple #[M1 (BX a b p), .bool (K9 a b p)])∧Over w w':=by
 have:=yN a.1 a.2 b.1 b.2 p.1 p.2 w ha hb hp
 rw [←zH] at this
 exact this
theorem V9 {p:Pn} (h:KD p.1 p.2=true) :bd2 p:=by
 simp [KD,wB] at h
 exact⟨⟨by omega,by omega⟩,by omega,by omega⟩
theorem Hi {a b p:Pn} (h:p.1<min a.1 b.1- 1) :yC a b p=false:=by unfold yC;rw [decide_eq_true h];rfl
theorem Gk {a b p:Pn} (h:min a.1 b.1- 1≤p.1) :decide (p.1>max a.1 b.1+1) = !yC a b p:=by unfold yC;rw [decide_eq_false (FO.2 h),F0,Bool.not_not]
theorem VA {a b p:Pn} (h1:min a.2 b.2- 1≤p.2) (h2:p.2≤max a.2 b.2+1) :Z2 a b p=true:=by unfold Z2;rw [decide_eq_false (FO.2 h1),decide_eq_false (FO.2 h2)];rfl
theorem Zi {a b p:Pn} (h:yC a b p=false) :kl a b p=false:=by simp [kl,h]
theorem Zj {a b p:Pn} (h:Z2 a b p=false) :kl a b p=false:=by simp [kl,h]
theorem Zk {a b p:Pn} (h:K9 a b p=false) :kl a b p=false:=by simp [kl,h]
theorem vH {a b p:Pn} (h1:yC a b p=true) (h2:Z2 a b p=true) (h3:K9 a b p=true) :kl a b p=true:=by simp [kl,h1,h2,h3]
theorem zq {a b:Pn} {ys:List Pn} {k:Nat} (hk:k<ys.length) (h:kl a b (pt ys k) =false) :Ql a b (ys.take (k+1)) =Ql a b (ys.take k) :=by
 rw [X5 hk,WP,uq (l:= [pt ys k]) (fun p hp=>by rw [DP.1 hp];exact h),D7]
theorem X8 {a b:Pn} {ys:List Pn} {k:Nat} (hk:k<ys.length) (h:kl a b (pt ys k) =true) :Ql a b (ys.take (k+1)) =Ql a b (ys.take k) ++ [yP a b (pt ys k)] :=by
 rw [X5 hk,WP,LL h]
theorem Ol {xs:List Pn} {p:Pn} (h:p∈xs) :∃k,k<xs.length∧pt xs k=p:=by
 obtain ⟨k,hk,e⟩ :=Fe h
 exact⟨k,hk,by rw [←e,QK hk]⟩
theorem Um (xs:List Pn) (i k:Nat) :pt (xs.drop i) k=pt xs (i+k) :=by
 simp only [pt,px,py,List.getD_eq_getElem?_getD,List.getElem?_drop]
theorem YJ:∀(xs:List Pn) (t:Int),w7 xs t≤xs.length∧(∀p∈xs.take (w7 xs t),p.2<t)∧(w7 xs t<xs.length→t≤py xs (w7 xs t))
 | [],t=>⟨DM _,fun p hp=>by simp at hp,fun h=>absurd h (by simp [w7])⟩
 | p::xs,t=>by
  obtain ⟨h1,h2,h3⟩ :=YJ xs t
  by_cases hp:p.2<t
  ·have e:w7 (p::xs) t=w7 xs t+1:=by
    unfold w7
    rw [List.takeWhile_cons_of_pos (by simpa using hp),DT]
   rw [e]
   refine⟨by simpa using h1,fun q hq=> ?_,fun h=> ?_⟩
   ·rw [List.take_succ_cons] at hq
    rcases DZ.1 hq with rfl | hq
    ·exact hp
    ·exact h2 q hq
   ·have:=h3 (by simpa using h)
    have ek:py (p::xs) (w7 xs t+1) =py xs (w7 xs t) :=by simp [py]
    rw [ek]
    exact this
  ·have e:w7 (p::xs) t=0:=by
    unfold w7
    rw [List.takeWhile_cons_of_neg (by simpa using hp)]
    rfl
   rw [e]
   exact⟨DQ _,fun q hq=>by simp at hq,fun _=>by have:py (p::xs) 0=p.2:=rfl;omega⟩
theorem MM {a b:Pn} {xs:List Pn} :Ql a b (xs.drop (w7 xs (min a.2 b.2- 1))) =Ql a b xs:=by
 obtain ⟨h1,h2,h3⟩ :=YJ xs (min a.2 b.2- 1)
 conv=>rhs;rw [←D1 (w7 xs (min a.2 b.2- 1)) xs]
 rw [WP,uq (l:=xs.take _) (fun p hp=>Zj (by have:=h2 p hp;simp [Z2,this])),Fl]
theorem LM {a b:Pn} {ys:List Pn} {k:Nat} (hm:Uw ys) (hk:k<ys.length) (h:py ys k>max a.2 b.2+1) :Ql a b (ys.take k) =Ql a b ys:=by
 conv=>rhs;rw [←D1 k ys]
 rw [WP,uq (l:=ys.drop k) (fun p hp=>Zj ?_),D7]
 obtain ⟨j,hj,rfl⟩ :=Ol hp
 rw [D5] at hj
 rw [Um]
 have:=hm k (k+j) Om Om
 have e: (pt ys (k+j)).2=py ys (k+j) :=rfl
 simp [Z2,e]
 omega
theorem GC {xs:List Pn} (h:Uw xs) (i:Nat) :Uw (xs.drop i) :=fun k j hkj hj=>by
 rw [D5] at hj
 have e:∀k,py (xs.drop i) k=py xs (i+k) :=fun k=>by have:=Um xs i k;simp only [pt] at this;injection this
 rw [e,e]
 exact h _ _ Om Om
theorem Oj {a b:Pn} {xs:List Pn} (hm:Uw xs) {k:Nat} (hk:k< (xs.drop (w7 xs (min a.2 b.2- 1))).length) :min a.2 b.2- 1≤py (xs.drop (w7 xs (min a.2 b.2- 1))) k:=by
 obtain ⟨h1,h2,h3⟩ :=YJ xs (min a.2 b.2- 1)
 rw [D5] at hk
 have e:py (xs.drop (w7 xs (min a.2 b.2- 1))) k=py xs (w7 xs (min a.2 b.2- 1) +k) :=by have:=Um xs (w7 xs (min a.2 b.2- 1)) k;simp only [pt] at this;injection this
 rw [e]
 have:=hm (w7 xs (min a.2 b.2- 1)) (w7 xs (min a.2 b.2- 1) +k) Om Om
 have:=h3 Om
 omega
theorem xL {A:Option Addr} {n c i:Nat} (hi:i≤n) (hc:n≤c) :∃A',sliced A i n c 2= .slice A' (n- i) (c- i)∧∀ {w:World} {xs:List Pn},Pts w A n xs→Pts w A' (n- i) (xs.drop i) :=by
 by_cases h0:i<n
 ·cases A with
  | none=>exact⟨none,by simp [sliced],fun h=>absurd (h.2 Om) (by rintro⟨b,o,e,_⟩;cases e)⟩
  | some p=>
   by_cases hp:p.spot=none
   ·obtain ⟨b,o,v⟩ :=p
    cases hp
    exact⟨_,zf hc hi,fun h=>h.dropT hi hc⟩
   ·refine⟨_,J,fun {w xs} h=> ?_⟩
    obtain ⟨b,o,e,_⟩ :=h.2 Om
    injection e with e
    subst e
    exact absurd rfl hp
 ·obtain rfl:i=n:=by omega
  refine⟨_,J,fun {w xs} h=>⟨by rw [D5,h.1],fun h=>absurd h Om⟩⟩
theorem MA {w0:Bs} {Rs:List Res} {k B T m g c j:Nat} {l:List Wy} {e:Wy} (hk:Rs[k]? =some (qx B T 5 m (l.flatMap Wy.cells) (some ⟨g,0,none⟩,c))) (he:l[j]? =some e) :∀w',St w0 Rs w'→∀q v,e.cells[q]? =some v→w'.cell? ⟨g,0+j*5+q,none⟩ =some v:=fun w' hs q v hv=>by
 have h:w'.ownsRow B T 5 (.slice (some ⟨g,0,none⟩) m c) m (l.flatMap Wy.cells) := (hs.all k _ hk).1
 have:=LR (tl:= []) he hv
 rw [k6,D7] at this
 have:=h.cells rfl _ v this
 rw [Q5] at this
 rw [Fo] at this⊢
 exact this
theorem GM {L:List Wy} {k:Nat} {e:Wy} (h:L[k]? =some e) : ((L.map fun e=> (e.x,e.y)).take k).flatMap jI++ [.int .i64 e.x, .int .i64 e.y] = ((L.map fun e=> (e.x,e.y)).take (k+1)).flatMap jI:=by
 obtain ⟨hk,rfl⟩ :=List.getElem?_eq_some_iff.1 h
 rw [DY (by simpa using hk),Fs]
 simp [jI]
theorem zg (a b:Pn) (A:Option Addr) (n c:Nat) (hot:List Pn) (w:World) (h:Pts w A n hot) (ha:KD a.1 a.2=true) (hb:KD b.1 b.2=true) (hh:∀p∈hot,KD p.1 p.2=true) (hasc:Asc hot) (hc:n≤c) (hn:n≤1048576) :
  Calls Try.prog 37 #[pV a,pV b, .slice A n c] w fun e w'=>∃v,e= .returned v∧w'.ownsRow w.heap.size 27 2 v (qp a b hot).length ((qp a b hot).flatMap jI)∧Over w w':=by
 have hl:=h.1
 have hmono:=Hc hasc
 obtain ⟨hi1,hi2,hi3⟩ :=YJ hot (min a.2 b.2- 1)
 have ha2:bd2 a:=V9 ha
 have hb2:bd2 b:=V9 hb
 have hp2:∀p∈hot,bd2 p:=fun p hp=>V9 (hh p hp)
 obtain ⟨⟨a1,a2⟩,a3,a4⟩ :=id ha2
 obtain ⟨⟨b1',b2'⟩,b3',b4'⟩ :=id hb2
 obtain ⟨i,hi⟩ :∃i,i=w7 hot (min a.2 b.2- 1) :=⟨_,rfl⟩
 obtain ⟨A',eA,hA'⟩ :=xL (A:=A) (n:=n) (c:=c) (i:=i) Om hc
 obtain ⟨ys,hys⟩ :∃ys,ys=hot.drop i:=⟨_,rfl⟩
 have hyl:ys.length=n- i:=by rw [hys,D5,hl]
 have hyp:Pts w A' (n- i) ys:=hys▸hA' h
 have hym:Uw ys:=hys▸GC hmono i
 have hylow:∀k,k<ys.length→min a.2 b.2- 1≤py ys k:=fun k hk=>by subst hys hi;exact Oj hmono hk
 have hway:Ql a b ys=Ql a b hot:=by subst hys hi;exact MM
 have hymem:∀k,k<ys.length→pt ys k∈hot:=fun k hk=>by rw [hys] at hk⊢;rw [Um,←QK (by rw [D5] at hk;omega)];exact DR _
 have hwl:=ZO a b hot
 have hwl2:∀k,(Ql a b (ys.take k)).length≤1048576:=fun k=>by have:=ZO a b (ys.take k);rw [Ff] at this;omega
 have hwb:∀e∈Ql a b hot,MP e.num e.den:=fun e he=>by
  obtain ⟨p,hp,rfl⟩ :=LK he
  exact(GL ha2 hb2 (hp2 p hp)).low
 have hpl: (qp a b hot).length= (Ql a b hot).length:=by rw [qp,Fc,q8]
 have hsl: (ki (QV Q1) (Ql a b hot)).length= (Ql a b hot).length:=q8 _
 refine Jh (m:=93) (Try.func37) J J (lb J) ?_;refine S3 ?_;refine aX (fun b1=> ?_);refine N1 ?_;refine aX (fun b2=> ?_);refine N7 ?_;refine JY J J (Km J J) J (lb J) (fun b3=> ?_);refine n9 ?_;refine a9 (jN ub J J (fun w1 hs=>LZ _ a b w1 (OF (k:=2) _ J J w1 hs))) ?_;refine S4 ?_;refine aL (fun b4=> ?_);refine N1 ?_;refine aL (fun b5=> ?_);refine B9 ?_;refine a9 (jN Qd J J (fun w1 hs=>WU A n c hot (min a.2 b.2- 1) w1 (h.over hs.fin) (fun p hp=> (hp2 p hp).wide) Om hmono Om)) ?_;refine S9 ?_;refine Ki (T:=110) (s:=5) ?_;refine N1 ?_;refine Xi (X:=Option Addr×Nat) (fun x=>True) (fun x=> [(11, .slice x.1 (Ql a b hot).length x.2)]) (kK [6]) (fun x=> [.cel b1 27 [.int .i64 a.1, .int .i64 a.2], .cel b2 27 [.int .i64 b.1, .int .i64 b.2], .cel b3 27 [.int .i64 a.1, .int .i64 a.2, .int .i64 b.1, .int .i64 b.2], .cel b4 27 [.int .i64 (min a.1 b.1), .int .i64 (min a.2 b.2)], .cel b5 27 [.int .i64 (max a.1 b.1), .int .i64 (max a.2 b.2)],qx (Bs.N ⟨w,[]⟩) 110 5 (Ql a b hot).length ((Ql a b hot).flatMap Wy.cells) x]) (fun L h_0=> ?_) ?_
 ·refine S1 ?_
  rw [←hi]
  refine S3 ?_;refine a9 ((uk J J J js Om).as (eA)) ?_;refine S4 ?_;refine JR (X:=Nat×Option Addr×Nat) (fun x=>x.1≤n- i) (fun x=>n- i- x.1) (fun x=> [(11, .slice x.2.1 (Ql a b (ys.take x.1)).length x.2.2),(38, .int .i64 (x.1:Int))]) (kK [3,4,6,7,8,36,37]) (fun x=> [.cel b1 27 [.int .i64 a.1, .int .i64 a.2], .cel b2 27 [.int .i64 b.1, .int .i64 b.2], .cel b3 27 [.int .i64 a.1, .int .i64 a.2, .int .i64 b.1, .int .i64 b.2], .cel b4 27 [.int .i64 (min a.1 b.1), .int .i64 (min a.2 b.2)], .cel b5 27 [.int .i64 (max a.1 b.1), .int .i64 (max a.2 b.2)],qx (Bs.N ⟨w,[]⟩) 110 5 (Ql a b (ys.take x.1)).length ((Ql a b (ys.take x.1)).flatMap Wy.cells) x.2]) (0,none,0) (DQ _) ⟨J,sz⟩ (fun _ h=>h) ?_
  intro⟨k,rA,rc⟩ hx L hL1
  refine v9 ?_;refine r9 ?_
  have hk:k≤n- i:=hx
  refine S5 ?_;refine cZ (fun c1=> ?_) (fun c1=> ?_)
  ·have hlt:k<n- i:=Om
   obtain ⟨eb,eo,rfl,_⟩ :=hyp.2 Om
   have hpm:=hymem k Om
   have hlo:=hylow k Om
   obtain ⟨⟨p1,p2⟩,p3,p4⟩ :=hp2 _ hpm
   have hwk:=hwl2 k
   refine S7 ?_;refine a9 (jj J J jh J (VS (b:=eb) (o:=eo) hyp hlt)) ?_;refine S1 ?_;refine aL (fun b6=> ?_);refine Db ?_;refine cZ (fun c2=> ?_) (fun c2=> ?_)
   ·rw [LM (a:=a) (b:=b) hym Om Om,hway]
    refine S7 ?_
    exact Vy h_0 ((rA,rc)) (trivial) ⟨J,sz⟩ (fun _ h=>h.picks [0,1,2,3,4,5] Dc)
   ·refine S3 ?_;refine ky [(61, .bool (!yC a b (pt ys k)))] (kK [3,4,6,7,8,36,37,11,38,39,40,41,13,42,43,44,45,46,47]) (fun L h_8=> ?_) ?_
    ·refine S8 ?_;refine cV 54 (fun g1=> ?_) (fun g1=> ?_)
     ·refine S8 ?_
      exact JB h_8 ⟨vb (by rw [Hi (p:=pt ys k) (by show px ys k<_;omega)];rfl),sz⟩ (u9 J)
     ·refine Dk ?_
      exact JB h_8 ⟨vb (Gk (p:=pt ys k) (by show _≤px ys k;omega)),sz⟩ (u9 J)
    ·refine v9 ?_;refine cZ (fun c3=> ?_) (fun c3=> ?_)
     ·refine S8 ?_
      exact Jo hL1 ((k+1,rA,rc)) ((show k+1≤n- i by omega)) (by simp only;omega) ⟨(by rw [zq Om (Zi (by simpa using c3))];rfl),vi Om,sz⟩ (fun _ h=>h.upto ⟨J,J,J,J,J,by rw [zq Om (Zi (by simpa using c3))],trivial⟩)
     ·refine S7 ?_;refine a9 (jN WE J J (fun w1 hs=>ZN a b (pt ys k) w1 ha hb (hh _ hpm))) ?_;refine S4 ?_;refine aL (fun b7=> ?_);refine N8 ?_;refine cZ (fun c4=> ?_) (fun c4=> ?_)
      ·rw [OU c4]
       refine S5 ?_;refine a9 (JU J J (Vv J J)) ?_;refine S1 ?_;refine JY J J (vn J) J (lb J) (fun b8=> ?_);refine N1 ?_;refine Qe (k:=5) J jz JO Dc J Dc J J J (fun w' hs=>Kl hs (k:=8) J J) (by simp [Value.oneCell']) (by unfold maxLen;omega) Om (DM _) (fun r1=> ?_);refine N8 ?_
       exact Jo hL1 ((k+1,r1)) ((show k+1≤n- i by omega)) (by simp only;omega) ⟨(by rw [X8 Om (vH (by simpa using c3) (VA hlo (by show py ys k≤_;omega)) c4),DK];rfl),vi Om,sz⟩ (fun _ h=>h.upto ⟨J,J,J,J,J,by rw [X8 Om (vH (by simpa using c3) (VA hlo (by show py ys k≤_;omega)) c4),DK,Fs];rfl,trivial⟩)
      ·refine S7 ?_
       exact Jo hL1 ((k+1,rA,rc)) ((show k+1≤n- i by omega)) (by simp only;omega) ⟨(by rw [zq Om (Zk c4)];rfl),vi Om,sz⟩ (fun _ h=>h.upto ⟨J,J,J,J,J,by rw [zq Om (Zk c4)],trivial⟩)
  ·rw [Fk Om,hway]
   refine S5 ?_
   exact Vy h_0 ((rA,rc)) (trivial) ⟨J,sz⟩ (fun _ h=>h.picks [0,1,2,3,4,5] Dc)
 ·rintro⟨sA,sc⟩ -
  refine v9 ?_;refine r9 ?_;refine S4 ?_;refine Zm (k:=5) (r':=qx 0 110 5 (Ql a b hot).length ((ki (QV Q1) (Ql a b hot)).flatMap Wy.cells) (sA,sc)) qR J J J Dc J (fun w1 hs=>xQ (hs.all 5 _ J).1 J hwb Om) (fun _ h=>h) J ?_;refine N4 ?_;refine Ki (T:=27) (s:=2) ?_;refine N9 ?_;refine JR (X:=Nat×Option Addr×Nat) (fun y=>y.1≤(Ql a b hot).length) (fun y=> (Ql a b hot).length- y.1) (fun y=> [(16, .slice y.2.1 y.1 y.2.2),(82, .int .i64 (y.1:Int))]) (kK [6,80,81]) (fun y=> [.cel b1 27 [.int .i64 a.1, .int .i64 a.2], .cel b2 27 [.int .i64 b.1, .int .i64 b.2], .cel b3 27 [.int .i64 a.1, .int .i64 a.2, .int .i64 b.1, .int .i64 b.2], .cel b4 27 [.int .i64 (min a.1 b.1), .int .i64 (min a.2 b.2)], .cel b5 27 [.int .i64 (max a.1 b.1), .int .i64 (max a.2 b.2)],qx 0 110 5 (Ql a b hot).length ((ki (QV Q1) (Ql a b hot)).flatMap Wy.cells) (sA,sc),qx (Bs.N ⟨w,[]⟩) 27 2 y.1 (((qp a b hot).take y.1).flatMap jI) y.2]) (0,none,0) (DQ _) ⟨J,sz⟩ (fun _ h=>h) ?_
  intro⟨j,qA,qc⟩ hy L hL2
  refine v9 ?_;refine r9 ?_
  have hj:j≤(Ql a b hot).length:=hy
  refine S5 ?_;refine cZ (fun c5=> ?_) (fun c5=> ?_)
  ·have hlt:j< (Ql a b hot).length:=Om
   refine Kh (fun w hs=>WL (k:=5) J hs Om) ?_
   rintro⟨eg,rfl⟩
   obtain ⟨e,he⟩ :∃e,(ki (QV Q1) (Ql a b hot))[j]? =some e:=⟨_,List.getElem?_eq_getElem Om⟩
   refine S6 ?_;refine a9 (jS (j:=j) J J J jz Om) ?_;refine a9 (jj J J Jr J (MA (k:=5) J he)) ?_;refine S1 ?_;refine aL (fun b9=> ?_);refine N8 ?_;refine JY J J (QL J) J (lb J) (fun b10=> ?_);refine N1 ?_;refine Qe (k:=6) J js jJ Dc J Dc J J J (fun w' hs=>Kl hs (k:=8) J J) (by simp [Value.oneCell']) (by unfold maxLen;omega) Om (DM _) (fun r2=> ?_);refine N8 ?_
   exact Jo hL2 ((j+1,r2)) ((show j+1≤(Ql a b hot).length by omega)) (by simp only;omega) ⟨J,vi Om,sz⟩ (fun _ h=>h.upto ⟨J,J,J,J,J,J,by rw [qp,←GM he],trivial⟩)
  ·have hje:j= (Ql a b hot).length:=Om
   subst hje
   rw [Fk Om]
   refine Dh ?_;refine jG J (.tmp J) ?_
   intro w' hs
   have hr:=hs.all 6 _ rfl
   exact⟨_,rfl,Zy (by rw [hpl];exact hr.1) (fun b hb=> (hr.2.1 b hb).elim id (fun h=>by cases h)),hs.fin⟩
end Go.Proofs.Ytpncbbcmoiiipaa
