import Derived.Test.YtpncbbcmoiiipaaGreatMFit
import Derived.Test.YtpncbbcmoiiipaaGreatMOwn
import Derived.Test.YtpncbbcmoiiipaaGreatMValidRegion
set_option linter.unusedVariables false
set_option linter.unusedSimpArgs false
namespace Go.Proofs.YtpncbbcmoiiipaaGreat
open Go Go.RowKit
theorem EB (a b c d:Pn) : (Qk b a c d).length= (Qk a b c d).length:=by
 refine List.Perm.length_eq ((jj6 (Wo _ _ _ _) (Wo _ _ _ _)).2 fun q=> ?_)
 rw [qL,qL]
 unfold kk
 rw [Ij a b]
 constructor
 ·rintro⟨h,k⟩
  exact⟨or_left_comm.1 h,k⟩
 ·rintro⟨h,k⟩
  exact⟨or_left_comm.1 h,k⟩
theorem T5 (a b c d:Pn) : (Qk a b d c).length= (Qk a b c d).length:=by
 refine List.Perm.length_eq ((jj6 (Wo _ _ _ _) (Wo _ _ _ _)).2 fun q=> ?_)
 rw [qL,qL]
 unfold kk
 rw [Ij c d]
 have e:∀A B C D:Prop,(A∨B∨C∨D)→(A∨B∨D∨C) :=fun A B C D h=>h.imp id fun h=>h.imp id Or.symm
 constructor
 ·rintro⟨h,k⟩
  exact⟨e _ _ _ _ h,k⟩
 ·rintro⟨h,k⟩
  exact⟨e _ _ _ _ h,k⟩
theorem DY (a b c d:Pn) :ve b a c d=ve a b c d:=by
 have e1:kG b a c d=kG a b c d:=by unfold kG;rw [jjY b.1,jjZ b.1,jjY b.2,jjZ b.2]
 have e2:qU b a c d=qU a b c d:=by unfold qU;rw [EB,uN]
 have e3: (decide (b≠c) &&decide (b≠d) &&decide (a≠c) &&decide (a≠d)) = (decide (a≠c) &&decide (a≠d) &&decide (b≠c) &&decide (b≠d)) :=by
  cases decide (b≠c) <;>cases decide (b≠d) <;>cases decide (a≠c) <;>cases decide (a≠d) <;>rfl
 have e4:decide ((b=c∧a=d)∨(b=d∧a=c)) =decide ((a=c∧b=d)∨(a=d∧b=c)) :=decide_eq_decide.2 ⟨fun h=>h.elim (fun h=> .inr ⟨h.2,h.1⟩) fun h=> .inl ⟨h.2,h.1⟩,fun h=>h.elim (fun h=> .inr ⟨h.2,h.1⟩) fun h=> .inl ⟨h.2,h.1⟩⟩
 unfold ve
 rw [e1,e2,e3,e4]
theorem OL (a b c d:Pn) :ve a b d c=ve a b c d:=by
 have e1:kG a b d c=kG a b c d:=by unfold kG;rw [jjY d.1,jjZ d.1,jjY d.2,jjZ d.2]
 have e0:qf a b d c=qf a b c d:=by rw [←Wx,uN,Wx]
 have e2:qU a b d c=qU a b c d:=by unfold qU;rw [T5,e0]
 have e3: (decide (a≠d) &&decide (a≠c) &&decide (b≠d) &&decide (b≠c)) = (decide (a≠c) &&decide (a≠d) &&decide (b≠c) &&decide (b≠d)) :=by
  cases decide (b≠c) <;>cases decide (b≠d) <;>cases decide (a≠c) <;>cases decide (a≠d) <;>rfl
 have e4:decide ((a=d∧b=c)∨(a=c∧b=d)) =decide ((a=c∧b=d)∨(a=d∧b=c)) :=decide_eq_decide.2 or_comm
 unfold ve
 rw [e1,e2,e3,e4]
theorem E4 {E F:List Leg} (hP:x6 E) (h:∀e∈F,∃e0∈E,e=e0∨e=Qn e0) :x6 F:=by
 intro e he f hf
 obtain ⟨e0,he0,ke⟩ :=h e he
 obtain ⟨f0,hf0,kf⟩ :=h f hf
 have h0:=hP e0 he0 f0 hf0
 rcases ke with rfl | rfl<;>rcases kf with rfl | rfl
 ·exact h0
 ·show ve (lA e) (lB e) (lB f0) (lA f0) =true
  rw [OL];exact h0
 ·show ve (lB e0) (lA e0) (lA f) (lB f) =true
  rw [DY];exact h0
 ·show ve (lB e0) (lA e0) (lB f0) (lA f0) =true
  rw [DY,OL];exact h0
theorem jcw {E:List Leg} (hP:x6 E) :NoX E:=fun e he f hf hs=>by
 have h:=hP e he f hf
 have m:=US hs
 have hap:¬kG (lA e) (lB e) (lA f) (lB f) =true:=fun k=>by rw [Yi k] at m;cases m
 unfold ve at h
 rw [if_neg hap,if_pos m] at h
 cases h
theorem PT {hot:List Pn} (hnd:hot.Nodup) :∀n {rs:List jV},bareG hot rs→bareG hot (I2 hot n rs)
 | 0,_,h=>h
 | n+1,_,h=>PT hnd n (h.snap hnd)
theorem jaD {hot hot2:List Pn} {ss:List jV} (hnd:hot2.Nodup) (hsub:∀p∈hot2,p∈hot) (hb2:bareG hot2 ss) (hw:∀e∈jE ss,∀x∈qD (lA e) (lB e) hot,x=lA e∨x=lB e) :qR hot2 ss=ss:=by
 have one:∀r∈ss,kU hot2 r=r:=fun r hr=>by
  obtain ⟨br,bm⟩ :=hb2 r hr
  rw [uM br]
  have hp:∀d∈KK r,Qs hot2 d= [d.1] :=fun d hd=>by
   have he:mkL d∈jE ss:=Yw.2 ⟨r,hr,by rw [kz br];exact jip.2 ⟨d,hd,rfl⟩⟩
   have hwd:=hw _ he
   obtain ⟨o1,o2,o3⟩ :=yY br bm d hd
   obtain ⟨mid,hm⟩ :=ZH o1 o2 o3
   have hn:=ut (a:=d.1) (b:=d.2) hnd
   rw [hm] at hn
   have hmid:mid= [] :=by
    cases hmm:mid with
    | nil=>rfl
    | cons x l=>
     exfalso
     rw [hmm] at hm hn
     have hx:x∈qD d.1 d.2 hot2:=by rw [hm];simp
     obtain ⟨x1,x2⟩ :=Ku.1 hx
     have hx3:x∈qD d.1 d.2 hot:=Ku.2 ⟨hsub x x1,x2⟩
     have hx4:x=d.1∨x=d.2:=hwd x hx3
     simp only [jiJ,jjF,jir,jiv,ji3,or_false,not_or] at hn
     rcases hx4 with e | e
     ·exact hn.1.1 e.symm
     ·exact hn.2.1.2 e
   unfold Qs
   rw [hm,hmid]
   rfl
  have: (KK r).flatMap (Qs hot2) = (KK r).map (·.1) :=by
   have key:∀l:List (Pn×Pn),(∀d∈l,Qs hot2 d= [d.1])→l.flatMap (Qs hot2) =l.map (·.1) :=fun l=>by
    induction l with
    | nil=>intro _;rfl
    | cons d l ih=>intro h;rw [jiB,h d (by simp),ih (fun e he=>h e (jiq _ he))];rfl
   exact key _ hp
  rw [this,Wu]
 unfold qR
 exact(List.map_congr_left one).trans (by simp)
theorem CmOk.keys {rs ss:List jV} (h:CmOk rs ss) (ha:VA rs ss=true) (hb:WO rs ss=true) :
  Keys (KI (jE (uh rs ss) ++jE (Wn rs ss))) (jE (uh rs ss))∧Keys (KI (jE (uh rs ss) ++jE (Wn rs ss))) (jE (Wn rs ss)) :=by
 have hT:=h.two ha hb
 have hP:=h.pair ha hb
 obtain ⟨r1,_⟩ :=Zl h.hot1 ha
 obtain ⟨r2,_⟩ :=Zl h.hot2 hb
 exact⟨PV (xu _) (fun q=>zT) hT.ne hP (fun e he=>jjc _ he) (yJ r1).close,
  PV (xu _) (fun q=>zT) hT.ne hP (fun e he=>jjH _ he) (yJ r2).close⟩
theorem CmOk.way {rs ss:List jV} (h:CmOk rs ss) (ha:VA rs ss=true) (hb:WO rs ss=true) {e:Leg} (he:e∈jE (uh rs ss) ++jE (Wn rs ss)) :
  lA e∈wQ rs ss∧lB e∈wQ rs ss∧qD (lA e) (lB e) (wQ rs ss) = [lA e,lB e] :=by
 have one:∀ {qs:List jV},HotOk (wQ rs ss) qs→L6 (wQ rs ss) qs=true→e∈jE (IK (wQ rs ss) qs)→lA e∈wQ rs ss∧lB e∈wQ rs ss∧qD (lA e) (lB e) (wQ rs ss) = [lA e,lB e] :=fun {qs} hk ho he=>by
  obtain ⟨_,f,n,i⟩ :=Zl hk ho
  have hbg:bareG (wQ rs ss) (IK (wQ rs ss) qs) :=by rw [i];exact PT hk.nd n hk.bare
  obtain ⟨a1,a2,_,a4⟩ :=HC hbg f he
  exact⟨a1,a2,a4⟩
 rcases jiv.1 he with he | he
 ·exact one h.hot1 ha he
 ·exact one h.hot2 hb he
theorem Iz {α:Type} {f:α→Int} :∀ {l:List α},(∀x∈l,0≤f x)→sm f l=0→∀x∈l,f x=0
 | [],_,_,x,hx=>by cases hx
 | a::l,h,hs,x,hx=>by
  have h1:=h a (jiE ..)
  have h2:=IB (l:=l) (f:=f) fun y hy=>h y (jiq _ hy)
  simp only [sm] at hs
  rcases jir.1 hx with rfl | hx
  ·omega
  ·exact Iz (fun y hy=>h y (jiq _ hy)) Om x hx
theorem jcI {B:List Leg} (hne:∀l∈B,lA l≠lB l) (hc:∀v,sm (fun l=>Ut v (lA l) - Ut v (lB l)) B=0) (hr:JE (KX (KG B)) =true) :∀r∈KX (KG B),bare r:=by
 have s:sm (Xf fun a b=>if a=b then 1 else 0) (KX (KG B)) =0:=by
  rw [Ck]
  refine(Fk (fun a b=>if a=b then 1 else 0) hc).trans ?_
  exact(JW fun l hl=>if_neg (hne l hl)).trans (WU B)
 have nn:∀r:List Pn,∀j∈List.range r.length,0≤(fun j=> (if pt r j=pt r (nx r j) then(1:Int) else 0)) j:=fun r j _=>by
  simp only
  split<;>decide
 have z:=Iz (fun r _=>by rw [GE];exact IB (nn r)) s
 intro r h
 refine⟨Tg hr r h,fun j hj e=> ?_⟩
 have zr:=z r h
 rw [GE] at zr
 have:=Iz (nn r) zr j (jjo.2 hj)
 simp only [if_pos e] at this
 cases this
structure OvT (rs ss:List jV) (how:Int) (T:List jV) :Prop where
 fit:VE T [] =true
 r:LJ T [] 1=T
 c:FE T [] 1=0
 isn:Ng T=true
 wind:∀p,xW p (jE T) =ix (Qy (xW p (jE (uh rs ss))) (xW p (jE (Wn rs ss))) how)
 area:0≤sm (fun l=>RK (lA l) (lB l)) (jE T)
 perm: (jE T).Perm (QG rs ss how)
 src:∀e∈jE T,∃e0∈jE (uh rs ss) ++jE (Wn rs ss),e=e0∨e=Qn e0
theorem jh1 {rs ss:List jV} {how:Int} (h:CmOk rs ss) (ha:VA rs ss=true) (hb:WO rs ss=true) (hT:JE (KX (vo rs ss how)) =true) :OvT rs ss how (KX (vo rs ss how)) :=by
 obtain ⟨T,eT⟩ :∃T,T=KX (vo rs ss how) :=⟨_,rfl⟩
 rw [←eT] at hT⊢
 have eT':T=KX (KG (QG rs ss how)) :=eT
 have hTw:=h.two ha hb
 obtain ⟨k1,k2⟩ :=h.keys ha hb
 have hB:QG rs ss how=Kw (KI (jE (uh rs ss) ++jE (Wn rs ss))) (jE (uh rs ss)) (jE (Wn rs ss)) how:=Fz _ _ _
 have hc:∀v,sm (fun l=>Ut v (lA l) - Ut v (lB l)) (QG rs ss how) =0:=fun v=>by rw [hB];exact xf k1 k2 v
 have hm:∀l∈QG rs ss how,∃e∈jE (uh rs ss) ++jE (Wn rs ss),(l=e∨l=Qn e) :=fun l hl=>Mb hTw hl
 have hne:∀l∈QG rs ss how,lA l≠lB l:=fun l hl=>by
  obtain ⟨e,he,k⟩ :=hm l hl
  have:=hTw.ne e he
  rcases k with rfl | rfl
  ·exact this
  ·exact fun z=>this z.symm
 have perm: (jE T).Perm (QG rs ss how) :=by rw [eT'];exact jcJ hne hc
 have src:∀e∈jE T,∃e0∈jE (uh rs ss) ++jE (Wn rs ss),e=e0∨e=Qn e0:=fun e he=>hm e (perm.mem_iff.1 he)
 have hPT:x6 (jE T) :=E4 (h.pair ha hb) src
 have hnx:=jcw hPT
 have hbare:∀r∈T,bare r:=by rw [eT'];exact jcI hne hc (by rw [←eT'];exact hT)
 have hid:=Ei hbare
 have e0:jE ([] :List jV) = [] :=rfl
 have hT2:CmOk T [] :=⟨hT,rfl,by rw [e0,jiG];exact xK hT⟩
 have hot2:=hT2.hot1
 rw [hid] at hot2
 have hsub:∀p∈wQ T [],p∈wQ rs ss:=fun p hp=>by
  unfold wQ Dn at hp
  rw [e0,jiG] at hp
  obtain ⟨k,hk,e⟩ :=PN hnx _ (jih _) ((Wi _ _).1 hp)
  have hmem:lg (jE T) k∈jE T:=by rw [xx hk];exact jis _
  obtain ⟨x,hx,kx⟩ :=src _ hmem
  obtain ⟨a1,a2,_⟩ :=h.way ha hb hx
  rcases kx with kx | kx<;>rw [kx] at e<;>rcases e with e | e<;>rw [e]
  ·exact a1
  ·exact a2
  ·exact a2
  ·exact a1
 have hway:∀e∈jE T,∀x∈qD (lA e) (lB e) (wQ rs ss),x=lA e∨x=lB e:=fun e he x hx=>by
  obtain ⟨e1,he1,k⟩ :=src e he
  obtain ⟨_,_,w⟩ :=h.way ha hb he1
  rcases k with rfl | rfl
  ·rw [w] at hx
   simpa using hx
  ·have hx':x∈qD (lB e1) (lA e1) (wQ rs ss) :=hx
   rw [SW h.hot1.nd,w] at hx'
   have:x=lB e1∨x=lA e1:=by simpa using hx'
   exact this
 have fix2:qR (wQ T []) T=T:=jaD hot2.nd hsub hot2.bare hway
 have st2:zn (wQ T []) (J8 T) =some (T,0) :=by
  rw [hid]
  show WV (wQ T []) (401+1) T 0=_
  unfold WV
  rw [fix2,if_neg (by rw [hT];decide),if_pos rfl]
 have a1:uh T [] =T:= (wW st2).1
 have o1:VA T [] =true:= (wW st2).2.2
 have m2:zn (wQ T []) (J8 []) =some ([],0) :=by
  have e0:∀f,WV (wQ T []) (f+1) [] 0=some ([],0) :=fun f=>rfl
  exact e0 401
 have a2:Wn T [] = [] := (wW m2).1
 have o2:WO T [] =true:= (wW m2).2.2
 have hfit:VE T [] =true:=by
  unfold VE
  rw [o1,o2,decide_eq_true hT2.len]
  rfl
 have hbrd:QG T [] 1=QG rs ss how:=by
  have e1:QG T [] 1=vn (jE T) [] 1:=by unfold QG;rw [a1,a2];rfl
  rw [e1,Fz,jiG,hB]
  refine Ep k1 k2 ?_ fun p=>by rw [←hB];exact Ok perm p
  refine zv (Xv _) ((Xv _).filter _) fun q=> ?_
  rw [zT,ji6]
  constructor
  ·rintro⟨e,he,rfl⟩
   have he':=perm.mem_iff.1 he
   rw [hB] at he'
   obtain ⟨p,hp,hl⟩ :=jba he'
   obtain ⟨n1,n2,_,_⟩ :=XH (k1.ord p hp)
   have hn:Q5 e=p:=by rcases OX hl with k | k<;>rw [k] <;>assumption
   rw [hn]
   refine⟨hp,?_⟩
   cases hs:zk p (Qy (kX (jE (uh rs ss)) p).left (kX (jE (Wn rs ss)) p).left how) (Qy (kX (jE (uh rs ss)) p).right (kX (jE (Wn rs ss)) p).right how) with
   | nil=>rw [hs] at hl;cases hl
   | cons x l=>rfl
  ·rintro⟨hq,hs⟩
   cases hs2:zk q (Qy (kX (jE (uh rs ss)) q).left (kX (jE (Wn rs ss)) q).left how) (Qy (kX (jE (uh rs ss)) q).right (kX (jE (Wn rs ss)) q).right how) with
   | nil=>rw [hs2] at hs;cases hs
   | cons x l=>
    have hx:x∈zk q (Qy (kX (jE (uh rs ss)) q).left (kX (jE (Wn rs ss)) q).left how) (Qy (kX (jE (uh rs ss)) q).right (kX (jE (Wn rs ss)) q).right how) :=by rw [hs2];exact jiE ..
    obtain ⟨n1,n2,_,_⟩ :=XH (k1.ord q hq)
    refine⟨x,perm.mem_iff.2 (by rw [hB];exact jjL.2 ⟨q,hq,hx⟩),?_⟩
    rcases OX hx with k | k<;>rw [k]
    ·exact n1.symm
    ·exact n2.symm
 have hcm:KX (vo T [] 1) =T:=by
  have e1:vo T [] 1=KG (QG rs ss how) :=by unfold vo;rw [hbrd]
  rw [e1,←eT']
 refine⟨hfit,?_,?_,?_,fun p=> ?_,?_,perm,src⟩
 ·unfold LJ
  rw [if_pos hfit,hcm]
  exact if_pos hT
 ·unfold FE
  rw [if_pos hfit,hcm]
  exact if_pos hT
 ·have hlok:=OP hT
  have hne':=zt T T.length
  rw [Ng,hT,jix]
  exact(Lo fun i hi' k hk'=>by
   have m1:lg (jE T) i∈jE T:=by rw [xx hi'];exact jis _
   have m2:lg (jE T) k∈jE T:=by rw [xx (show k< (jE T).length by omega)];exact jis _
   rw [←D4 (hlok _ m1) (hlok _ m2) (hne' _ m1) (hne' _ m2)]
   exact hPT _ m1 _ m2).symm
 ·have e1:xW p (jE T) =xW p (QG rs ss how) :=wj _ perm
  rw [e1,hB]
  exact jbc k1 k2 p
 ·rw [wj _ perm,hB]
  refine ja9 k1 k2 (M:=262144) fun p hp=> ?_
  obtain ⟨kp,_⟩ :=ZB hTw.ok hTw.ne hp
  have:=kp.ok
  unfold qN at this
  omega
end Go.Proofs.YtpncbbcmoiiipaaGreat
namespace Go.Proofs.YtpncbbcmoiiipaaGreat
open Go Go.RowKit
set_option maxRecDepth 100000
set_option maxHeartbeats 4000000
def jhy (l:Leg) :Prop:=uB l.ax∧uB l.ay∧uB l.bx∧uB l.b_y
theorem jfR {ls:List Leg} {k:Nat} (h:k<ls.length) :lg ls k∈ls:=Uz h▸jis h
theorem FZ (A:Option Addr) (n c:Nat) (ls:List Leg) (x y:Int) (w:World) (h:Legs w A n ls) (hn:n≤1048576) (hok:∀l∈ls,jhy l) (hx:uB x) (hy:uB y) :
  Calls Tryz.prog 94 #[.slice A n c,uS x y] w fun e w'=>e= .returned (.int .i64 (wind false ls x y))∧Over w w':=by
 have hl:=h.1
 refine Jh (m:=70) (Tryz.func94) J J (lb J) ?_;refine S3 ?_;refine aX (fun b1=> ?_);refine N12 ?_;refine qz (X:=Nat) (fun k=>k≤n) (fun k=>n- k) (fun k=> [(5, .int .i64 (vk false ls x y k)),(6, .int .i64 (k:Int))]) (kK [0,3,4]) 0 (jii _) ⟨J,sz⟩ ?_
 intro k hk L hL1
 refine v9 ?_
 have hwb:=ZP false ls x y k
 refine S8 ?_;refine cZ (fun c1=> ?_) (fun c1=> ?_)
 ·have hlt:k<n:=Om
  obtain ⟨bb,oo,rfl⟩ :=h.form Om
  obtain ⟨d1,d2,d3,d4⟩ :=hok _ (jfR (show k<ls.length by omega))
  refine S10 ?_;refine a9 (jk J J jj J (J5 (b:=bb) (o:=oo) (j:=k) (fun w' hs=>h.over hs.fin) hlt)) ?_;refine S1 ?_;refine aL (fun b2=> ?_);refine N9 ?_;refine a9 (jk J J jj J (JX (b:=bb) (o:=oo) (j:=k) (fun w' hs=>h.over hs.fin) hlt)) ?_;refine S1 ?_;refine aL (fun b3=> ?_);refine N4 ?_;refine qt [(25, .bool (Fq (lg ls k) x y))] (kK [0,3,4,5,6,9,10,11,12,15,16,17,18,19,7,20,21,22,23,24,8]) (fun L h_7=> ?_) ?_
  ·refine S7 ?_;refine cV 31 (fun g1=> ?_) (fun g1=> ?_)
   ·refine S12 ?_;refine cV 38 (fun g2=> ?_) (fun g2=> ?_)
    ·refine S7 ?_;refine o9 (jT Qj J J (fun w h=>Wq _ _ _ _ _ _ w d1.1 d1.2 d2.1 d2.2 d3.1 d3.2 d4.1 d4.2 hx.1 hx.2 hy.1 hy.2)) ?_;refine S5 ?_
     exact Jk h_7 ⟨vb (by simp [Fq, *]),sz⟩ (u9 J)
    ·refine S8 ?_
     exact Jk h_7 ⟨vb (by symm;simp [Fq];omega),sz⟩ (u9 J)
   ·refine S15 ?_
    exact Jk h_7 ⟨vb (by symm;simp [Fq];omega),sz⟩ (u9 J)
  ·refine v9 ?_;refine cZ (fun c2=> ?_) (fun c2=> ?_)
   ·refine S13 ?_
    exact qi hL1 (k+1) Om Om ⟨vi (jdO c2),vi Om,sz⟩ (u9 J)
   ·refine qt [(47, .bool (ud (lg ls k) x y))] (kK [0,3,4,5,6,9,10,11,12,15,16,17,18,19,7,20,21,22,23,24,8,25]) (fun L h_9=> ?_) ?_
    ·refine S7 ?_;refine cV 53 (fun g3=> ?_) (fun g3=> ?_)
     ·refine S12 ?_;refine cV 60 (fun g4=> ?_) (fun g4=> ?_)
      ·refine S7 ?_;refine o9 (jT Qj J J (fun w h=>Wq _ _ _ _ _ _ w d1.1 d1.2 d2.1 d2.2 d3.1 d3.2 d4.1 d4.2 hx.1 hx.2 hy.1 hy.2)) ?_;refine S5 ?_
       exact Jk h_9 ⟨vb (by simp [ud, *]),sz⟩ (u9 J)
      ·refine S8 ?_
       exact Jk h_9 ⟨vb (by symm;simp [ud];omega),sz⟩ (u9 J)
     ·refine S15 ?_
      exact Jk h_9 ⟨vb (by symm;simp [ud];omega),sz⟩ (u9 J)
    ·refine v9 ?_;refine cZ (fun c3=> ?_) (fun c3=> ?_)
     ·refine S13 ?_
      exact qi hL1 (k+1) Om Om ⟨vi (N0 c2 c3),vi Om,sz⟩ (u9 J)
     ·refine S9 ?_
      exact qi hL1 (k+1) Om Om ⟨vi (Pa c2 c3),vi Om,sz⟩ (u9 J)
 ·refine S11 ?_;refine jM J (.tmp J) ?_
  intro w' hs
  exact⟨YF (by rw [wind,hl,show k=n by omega]),hs.fin⟩
theorem Od (A:Option Addr) (n c:Nat) (ls:List Leg) (x y:Int) (w:World) (h:Legs w A n ls) (hn:n≤1048576) (hok:∀l∈ls,qN l) (hx:uB x) (hy:uB y) :
  Calls Tryz.prog 94 #[.slice A n c,uS x y] w fun e w'=>e= .returned (.int .i64 (wind false ls x y))∧Over w w':=FZ A n c ls x y w h hn (fun l hl=>jb7 (hok l hl)) hx hy
def onL (l:Leg) (x y:Int) :Bool:=DT l.ax l.ay l.bx l.b_y x y
def HQ (h:Bool) (ls:List Leg) (x y:Int) :Bool:=ls.any fun l=>onL (Q2 h l) x y
def GY (h:Bool) (ls:List Leg) (x y:Int) (k:Nat) :Prop:=∀j,j<k→onL (Q2 h (lg ls j)) x y=false
theorem SL {h:Bool} {ls:List Leg} {x y:Int} {k:Nat} (hk:GY h ls x y k) (h1:onL (Q2 h (lg ls k)) x y=false) :GY h ls x y (k+1) :=fun j hj=>by
 by_cases e:j=k
 ·exact e▸h1
 ·exact hk j Om
theorem TJ {h:Bool} {ls:List Leg} {x y:Int} (hk:GY h ls x y ls.length) :HQ h ls x y=false:=by
 unfold HQ
 rw [List.any_eq_false]
 intro l hl
 obtain ⟨j,hj,rfl⟩ :=ji0 hl
 rw [Uz hj]
 simpa using hk j hj
theorem TK {h:Bool} {ls:List Leg} {x y:Int} {k:Nat} (hk:k<ls.length) (h1:onL (Q2 h (lg ls k)) x y=true) :HQ h ls x y=true:=by
 unfold HQ
 rw [List.any_eq_true]
 exact⟨ls[k],jis hk,by rw [Uz hk];exact h1⟩
theorem jbC (l:Leg) :Q2 false l=l:=by simp [Q2]
theorem Rm {ls:List Leg} {x y:Int} {k:Nat} (hk:k<ls.length) (h1:DT (lg ls k).ax (lg ls k).ay (lg ls k).bx (lg ls k).b_y x y=true) :HQ false ls x y=true:=
 TK hk (by rw [jbC];exact h1)
theorem NA {ls:List Leg} {x y:Int} {k:Nat} (hk:GY false ls x y k) (h1:DT (lg ls k).ax (lg ls k).ay (lg ls k).bx (lg ls k).b_y x y=false) :GY false ls x y (k+1) :=
 SL hk (by rw [jbC];exact h1)
theorem Nm (A:Option Addr) (n c:Nat) (ls:List Leg) (x y:Int) (w:World) (h:Legs w A n ls) (hn:n≤1048576) (hok:∀l∈ls,jhy l) (hx:uB x) (hy:uB y) :
  Calls Tryz.prog 93 #[.slice A n c,uS x y] w fun e w'=>e= .returned (.bool (HQ false ls x y))∧Over w w':=by
 have hl:=h.1
 refine Jh (m:=24) (Tryz.func93) J J (lb J) ?_;refine S3 ?_;refine aX (fun b1=> ?_);refine N8 ?_;refine qz (X:=Nat) (fun k=>k≤n∧GY false ls x y k) (fun k=>n- k) (fun k=> [(5, .int .i64 (k:Int))]) (kK [0,3,4]) 0 (⟨jii _,fun j hj=>absurd hj Om⟩) ⟨J,sz⟩ ?_
 intro k hk L hL1
 refine V8 ?_;refine cZ (fun c1=> ?_) (fun c1=> ?_)
 ·have hlt:k<n:=Om
  obtain ⟨bb,oo,rfl⟩ :=h.form Om
  obtain ⟨d1,d2,d3,d4⟩ :=hok _ (jfR (show k<ls.length by omega))
  refine S6 ?_;refine JS 12 ?_;refine dK 0 ?_;refine dK 1 ?_;refine dK 2 ?_;refine dK 3 ?_;refine dZ 4 J (jk J J jj J (J5 (b:=bb) (o:=oo) (j:=k) (fun w' hs=>h.over hs.fin) hlt)) ?_;refine dK 5 ?_;refine dK 6 ?_;refine dK 7 ?_;refine dK 8 ?_;refine dZ 9 J (jk J J jj J (JX (b:=bb) (o:=oo) (j:=k) (fun w' hs=>h.over hs.fin) hlt)) ?_;refine dK 10 ?_;refine dZ 11 J (jT yt J J (fun w h=>DF _ _ _ _ _ _ w d1 d2 d3 d4 hx hy)) ?_;refine JK Kr ?_;refine S1 ?_;refine cZ (fun c2=> ?_) (fun c2=> ?_)
  ·refine S10 ?_;refine jM J (.tmp J) ?_
   intro w' hs
   exact⟨QH (Rm (show k<ls.length by omega) c2).symm,hs.fin⟩
  ·refine S8 ?_
   exact qi hL1 (k+1) (⟨by omega,NA hk.2 c2⟩) Om ⟨vi Om,sz⟩ (u9 J)
 ·refine S10 ?_;refine jM J (.tmp J) ?_
  intro w' hs
  exact⟨QH (TJ (by rw [hl,show n=k by omega];exact hk.2)).symm,hs.fin⟩
theorem FU (A:Option Addr) (n c:Nat) (ls:List Leg) (x y:Int) (w:World) (h:Legs w A n ls) (hn:n≤1048576) (hok:∀l∈ls,qN l) (hx:uB x) (hy:uB y) :
  Calls Tryz.prog 93 #[.slice A n c,uS x y] w fun e w'=>e= .returned (.bool (HQ false ls x y))∧Over w w':=Nm A n c ls x y w h hn (fun l hl=>jb7 (hok l hl)) hx hy
def B9 (rs:List jV) (x y:Int) :Bool:=JE rs&&wR x y&& !HQ false (jE rs) x y
def jaI (rs:List jV) (x y:Int) :Value:= .tuple #[.int .i64 (if B9 rs x y=true then wind false (jE rs) x y else 0), .bool (B9 rs x y)]
theorem Pb {rs:List jV} {x y:Int} (h:B9 rs x y=false) :Ending.returned (.tuple #[.int .i64 0, .bool false]) =Ending.returned (jaI rs x y) :=by simp [jaI,h]
theorem jfK {rs:List jV} {x y:Int} (h:B9 rs x y=true) :Ending.returned (.tuple #[.int .i64 (wind false (jE rs) x y), .bool true]) =Ending.returned (jaI rs x y) :=by simp [jaI,h]
theorem Gf (A:Option Addr) (n c:Nat) (rs:List jV) (x y:Int) (w:World) (h:Rings w A n rs) (ht: (total rs:Int)≤1048577) :
  Calls Tryz.prog 41 #[qT A n c,uS x y] w fun e w'=>e= .returned (jaI rs x y)∧Over w w':=by
 refine Jh (m:=23) (Tryz.func41) J J (lb J) ?_;refine S3 ?_;refine aX (fun b1=> ?_);refine N1 ?_;refine aX (fun b2=> ?_);refine N6 ?_;refine J4 KW (v:=fun x=> .slice x.1 _ x.2) (r:=fun x=>JY 0 120 4 _ _ x) (H:=fun _=>True) J J J (lb J) (fun w1 hs=>Qh ((UG _ _ A n c rs w1 (qo (k:=0) J J w1 hs) (J3 (hs.cel (k:=0) J)) (h.over hs.fin) ht).mono fun e w' ⟨v,h1,_,h2,h3⟩ =>⟨v,h1,h2,h3⟩)) ?_
 rintro⟨eA,ec⟩ -
 refine N5 ?_;refine a9 (jT vD J J (fun w1 hs=>ZC _ _ A n c rs w1 (qo (k:=0) J J w1 hs) (J3 (hs.cel (k:=0) J)) (h.over hs.fin) ht)) ?_;refine S2 ?_;refine cV 10 (fun g1=> ?_) (fun g1=> ?_)
 ·refine S18 ?_;refine qv J (.tmp J) (.tmp J) ?_
  intro w' hs
  exact⟨Pb (by simp [B9,g1]),hs.fin⟩
 ·refine S3 ?_;refine o9 (jT BV J J (fun w1 hs=>GS x y w1)) ?_;refine S4 ?_;refine cV 15 (fun g2=> ?_) (fun g2=> ?_)
  ·refine S13 ?_;refine qv J (.tmp J) (.tmp J) ?_
   intro w' hs
   exact⟨Pb (by simp [B9,g2]),hs.fin⟩
  ·have hr:=g1
   have hp:=g2
   obtain ⟨hx,hy⟩ :=jgO hp
   refine S5 ?_;refine o9 (jT G6 J J (fun w1 hs=>FU eA _ ec (jE rs) x y w1 (JC (k:=2) J J w1 hs) (TI hr) (OP hr) hx hy)) ?_;refine S2 ?_;refine cZ (fun c1=> ?_) (fun c1=> ?_)
   ·refine S7 ?_;refine qv J (.tmp J) (.tmp J) ?_
    intro w' hs
    exact⟨Pb (by simp [B9,c1]),hs.fin⟩
   ·refine S6 ?_;refine a9 (jT xF J J (fun w1 hs=>Od eA _ ec (jE rs) x y w1 (JC (k:=2) J J w1 hs) (TI hr) (OP hr) hx hy)) ?_;refine S4 ?_;refine qv J (.tmp J) (.tmp J) ?_
    intro w' hs
    exact⟨jfK (by simp [B9,hr,hp,c1]),hs.fin⟩
def atA (rs:List jV) :Int:=if JE rs=true then KT (jE rs) else 0
def atC (rs:List jV) :Int:=if JE rs=true then 0 else 1
theorem jhj {rs:List jV} (h:JE rs=false) :Ending.returned (.tuple #[.int .i64 0, .int .i64 1]) =Ending.returned (.tuple #[.int .i64 (atA rs), .int .i64 (atC rs)]) :=by simp [atA,atC,h]
theorem jf8 {rs:List jV} (h:JE rs=true) :Ending.returned (.tuple #[.int .i64 (KT (qJ rs rs.length)), .int .i64 0]) =Ending.returned (.tuple #[.int .i64 (atA rs), .int .i64 (atC rs)]) :=by
 have e1:atA rs=KT (qJ rs rs.length) :=if_pos h
 have e2:atC rs=0:=if_pos h
 rw [e1,e2]
theorem No (rs:List jV) (k:Nat) :KT (qJ rs k) +Vj (rg rs k) (rg rs k).length=KT (qJ rs (k+1)) :=by
 have e:qJ rs (k+1) =qJ rs k++J0 (rg rs k) :=rfl
 rw [e,yp,T0]
theorem Po {rs:List jV} (h:JE rs=true) :∀k,k≤rs.length→∀l∈qJ rs k,qN l
 | 0,_,l,hl=>by simp [qJ] at hl
 | k+1,hk,l,hl=>by
  simp only [qJ,jiv] at hl
  rcases hl with h1 | h1
  ·exact Po h k Om l h1
  ·exact Yr (uJ (Km h (show k<rs.length by omega))).2.2 _ (jih _) l h1
theorem jdT {rs:List jV} (h:JE rs=true) {k:Nat} (hk:k<rs.length) : (-2251799813685248≤KT (qJ rs k)∧KT (qJ rs k)≤2251799813685248)∧-54975581388800≤Vj (rg rs k) (rg rs k).length∧Vj (rg rs k) (rg rs k).length≤54975581388800:=by
 obtain ⟨r1,r2,r3⟩ :=uJ (Km h hk)
 obtain ⟨t1,t2⟩ :=xR r3 _ (jih _)
 obtain ⟨u1,u2⟩ :=DH (qJ rs k) (Po h k Om)
 have h1:=yB rs k
 have h2:=Tv h k Om
 have h3:=WR h
 exact⟨⟨by omega,by omega⟩,by omega,by omega⟩
theorem Gd (A:Option Addr) (n c:Nat) (rs:List jV) (w:World) (h:Rings w A n rs) (ht: (total rs:Int)≤1048577) :
  Calls Tryz.prog 42 #[qT A n c] w fun e w'=>e= .returned (.tuple #[.int .i64 (atA rs), .int .i64 (atC rs)])∧Over w w':=by
 have hl:=h.1
 refine Jh (m:=25) (Tryz.func42) J J (lb J) ?_;refine S3 ?_;refine aX (fun b1=> ?_);refine N6 ?_;refine a9 (jT vD J J (fun w1 hs=>ZC _ _ A n c rs w1 (qo (k:=0) J J w1 hs) (J3 (hs.cel (k:=0) J)) (h.over hs.fin) ht)) ?_;refine S2 ?_;refine cZ (fun c1=> ?_) (fun c1=> ?_)
 ·refine S7 ?_;refine qv J (.tmp J) (.tmp J) ?_
  intro w' hs
  exact⟨jhj c1,hs.fin⟩
 ·have hr:JE rs=true:=c1
  have hn4:=WR hr
  refine S12 ?_;refine qz (X:=Nat) (fun k=>k≤n) (fun k=>n- k) (fun k=> [(4, .int .i64 (KT (qJ rs k))),(5, .int .i64 (k:Int))]) (kK [1,2,3]) 0 (jii _) ⟨J,sz⟩ ?_
  intro k hk L hL1
  refine V9 ?_;refine cZ (fun c2=> ?_) (fun c2=> ?_)
  ·have hlt:k<n:=Om
   obtain ⟨eb,eo,Ak,ck,rfl,hbB,hcell,hpts,hmax⟩ :=h.at_ hlt
   obtain ⟨r1,r2,r3⟩ :=uJ (Km hr (show k<rs.length by omega))
   obtain ⟨⟨a1,a2⟩,a3,a4⟩ :=jdT hr (show k<rs.length by omega)
   refine S11 ?_;refine a9 (jn J J JG (NJ hcell hbB)) ?_;refine a9 (jT Ha J J (fun w1 hs=>FY Ak _ ck (rg rs k) w1 (hpts.over hs.fin) Om r3)) ?_;refine S10 ?_
   exact qi hL1 (k+1) (Om) Om ⟨vi (No rs k),vi Om,sz⟩ (u9 J)
  ·have hkn:k=rs.length:=Om
   subst hkn
   refine S12 ?_;refine qv J (.tmp J) (.tmp J) ?_
   intro w' hs
   exact⟨jf8 hr,hs.fin⟩
end Go.Proofs.YtpncbbcmoiiipaaGreat
