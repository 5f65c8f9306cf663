import Derived.Test.YtkagkgjjfdkoaaaGreatMBrd
import Derived.Test.YtkagkgjjfdkoaaaGreatMTrI
import Derived.Test.YtkagkgjjfdkoaaaGreatMSnapG
import Derived.Test.YtkagkgjjfdkoaaaGreatMNetT
set_option linter.unusedVariables false
set_option linter.unusedSimpArgs false
namespace Go.Proofs.YtkagkgjjfdkoaaaGreat
open Go Go.RowKit
set_option maxRecDepth 100000
set_option maxHeartbeats 4000000
theorem jbN {o p q:Pn} (hp:p≠o) (hq:q≠o) (h:uo o p q) :uX o q p=true∨uX o p q=true:=by
 obtain ⟨ht,hd⟩ :=h
 have ht':tn o q p=0:=by rw [Lb];omega
 by_cases h1:uX o q p=true
 ·exact .inl h1
 by_cases h2:uX o p q=true
 ·exact .inr h2
 exfalso
 obtain ⟨m,n,hm,hn,e1,e2⟩ :=X4 (Ne.symm hq) ht' h1
 obtain ⟨m',n',hm',hn',e1',e2'⟩ :=X4 (Ne.symm hp) ht h2
 have hne:p.1- o.1≠0∨p.2- o.2≠0:=by
  by_cases k:p.1- o.1=0
  ·exact .inr fun k2=>hp (Prod.ext (by omega) (by omega))
  ·exact .inl k
 have hne':q.1- o.1≠0∨q.2- o.2≠0:=by
  by_cases k:q.1- o.1=0
  ·exact .inr fun k2=>hq (Prod.ext (by omega) (by omega))
  ·exact .inl k
 have hP:0< (p.1- o.1) * (p.1- o.1) + (p.2- o.2) * (p.2- o.2) :=by
  have s1:=kB (a:=p.1- o.1) (b:=p.1- o.1) rfl
  have s2:=kB (a:=p.2- o.2) (b:=p.2- o.2) rfl
  omega
 have hQ:0< (q.1- o.1) * (q.1- o.1) + (q.2- o.2) * (q.2- o.2) :=by
  have s1:=kB (a:=q.1- o.1) (b:=q.1- o.1) rfl
  have s2:=kB (a:=q.2- o.2) (b:=q.2- o.2) rfl
  omega
 have f1:n* (q.1- o.1) = (n- m) * (p.1- o.1) :=by
  have:n* (q.1- o.1) =n* (q.1- p.1) +n* (p.1- o.1) :=by grind
  rw [this,←e1];grind
 have f2:n* (q.2- o.2) = (n- m) * (p.2- o.2) :=by
  have:n* (q.2- o.2) =n* (q.2- p.2) +n* (p.2- o.2) :=by grind
  rw [this,←e2];grind
 have f1':n'* (p.1- o.1) = (n'- m') * (q.1- o.1) :=by
  have:n'* (p.1- o.1) =n'* (p.1- q.1) +n'* (q.1- o.1) :=by grind
  rw [this,←e1'];grind
 have f2':n'* (p.2- o.2) = (n'- m') * (q.2- o.2) :=by
  have:n'* (p.2- o.2) =n'* (p.2- q.2) +n'* (q.2- o.2) :=by grind
  rw [this,←e2'];grind
 generalize p.1- o.1=p1 at*
 generalize p.2- o.2=p2 at*
 generalize q.1- o.1=q1 at*
 generalize q.2- o.2=q2 at*
 have g1:n* (q1*q1+q2*q2) = (n- m) * (p1*q1+p2*q2) :=by
  have:n* (q1*q1+q2*q2) =q1* (n*q1) +q2* (n*q2) :=by grind
  rw [this,f1,f2];grind
 have g2:n'* (p1*p1+p2*p2) = (n'- m') * (p1*q1+p2*q2) :=by
  have:n'* (p1*p1+p2*p2) =p1* (n'*p1) +p2* (n'*p2) :=by grind
  rw [this,f1',f2'];grind
 have k1:=jfw hn hQ
 have k2:=jfw hn' hP
 have s1:=kB (a:=n- m) (b:=p1*q1+p2*q2) rfl
 have s2:=kB (a:=n'- m') (b:=p1*q1+p2*q2) rfl
 have a1:0<n- m:=by omega
 have a2:0<n'- m':=by omega
 have g3:n*n'* (p1*p1+p2*p2) = (n- m) * (n'- m') * (p1*p1+p2*p2) :=by
  have x1:n*n'* (p1*p1+p2*p2) =p1* (n* (n'*p1)) +p2* (n* (n'*p2)) :=by grind
  rw [x1,f1',f2']
  have x2:p1* (n* ((n'- m') *q1)) +p2* (n* ((n'- m') *q2)) = (n'- m') * (p1* (n*q1) +p2* (n*q2)) :=by grind
  rw [x2,f1,f2]
  grind
 have b1: (n- m) * (n'- m')≤(n- m) *n':=jfg (by omega) (by omega)
 have b2: (n- m) *n'<n*n':=jfh (by omega) hn'
 have b3:=jfh (show(n- m) * (n'- m') <n*n' by omega) hP
 omega
theorem TS {a b c d o p q:Pn} (h:xZ a b c d=true) (h1: (a=o∧b=p)∨(a=p∧b=o)) (h2: (c=o∧d=q)∨(c=q∧d=o)) (hp:p≠o) (hq:q≠o) (hs:uo o p q) :p=q:=Decidable.byContradiction fun hpq=>by
 have ona:∀x,uX o p x=true→uX a b x=true:=fun x hx=>by
  rcases h1 with⟨rfl,rfl⟩ |⟨rfl,rfl⟩
  ·exact hx
  ·rw [IV];exact hx
 have onc:∀x,uX o q x=true→uX c d x=true:=fun x hx=>by
  rcases h2 with⟨rfl,rfl⟩ |⟨rfl,rfl⟩
  ·exact hx
  ·rw [IV];exact hx
 have mem:∀x,x=o∨x=p∨x=q→uX o p x=true→uX o q x=true→x∈Q0 a b c d:=fun x h0 k1 k2=>Q9.2 ⟨by
  rcases h1 with⟨rfl,rfl⟩ |⟨rfl,rfl⟩ <;>rcases h2 with⟨rfl,rfl⟩ |⟨rfl,rfl⟩ <;>rcases h0 with rfl | rfl | rfl<;>simp,by
  unfold KC
  rw [ona x k1,onc x k2]
  rfl⟩
 have ho:=mem o (.inl rfl) (xX o p) (xX o q)
 have h3:Q1 a b c d=3:=by
  rcases jbN hp hq hs with k | k
  ·exact XT ho (mem p (.inr (.inl rfl)) (HX o p) k) (Ne.symm hp)
  ·exact XT ho (mem q (.inr (.inr rfl)) k (HX o q)) (Ne.symm hq)
 have hap:WA a b c d=false:=by
  rw [WA]
  simp only [Bool.or_eq_false_iff,decide_eq_false_iff_not]
  rcases h1 with⟨rfl,rfl⟩ |⟨rfl,rfl⟩ <;>rcases h2 with⟨rfl,rfl⟩ |⟨rfl,rfl⟩ <;>omega
 unfold xZ at h
 rw [hap,h3] at h
 simp only [jfC,if_false,show¬((3:Int) =2) by omega,show¬((3:Int) =1) by omega,if_true,decide_eq_true_eq] at h
 rcases h1 with⟨rfl,rfl⟩ |⟨rfl,rfl⟩ <;>rcases h2 with⟨rfl,rfl⟩ |⟨rfl,rfl⟩ <;>rcases h with⟨k1,k2⟩ |⟨k1,k2⟩ <;>first | exact hpq k1 | exact hpq k2 | exact hpq k1.symm | exact hpq k2.symm | exact hp k1 | exact hp k2 | exact hq k1 | exact hq k2 | exact hp k1.symm | exact hq k2.symm | exact hp k2.symm | exact hq k1.symm
def Tb (E:List Leg) :Prop:=∀e∈E,∀f∈E,xZ (lA e) (lB e) (lA f) (lB f) =true
theorem jcb {p l:Leg} {a b:Bool} (h:l∈M4 p a b) :l=p∨l=vO p:=by
 unfold M4 at h
 split at h
 ·exact .inl (jeT.1 h)
 ·split at h
  ·exact .inr (jeT.1 h)
  ·cases h
theorem jbB {es:List Leg} {p:Leg} (h:Key es p) :Kz p=p∧Kz (vO p) =p:=by
 have h1:Kz p=p:=by unfold Kz;rw [if_neg h.ord]
 exact⟨h1,by rw [DL h.ne,h1]⟩
theorem B4 {E1 E2:List Leg} {how:Int} (hE:TwoE E1 E2) {l:Leg} (h:l∈vq E1 E2 how) :∃e∈E1++E2,(l=e∨l=vO e) :=by
 unfold vq Z4 at h
 rw [jfr] at h
 obtain ⟨p,hp,hl⟩ :=jgh.1 h
 obtain ⟨_,e,he,h2⟩ :=xq hE.ok hE.ne hp
 refine⟨e,he,?_⟩
 have hn:p=e∨p=vO e:=by rw [h2];unfold Kz;split<;>simp
 rcases jcb hl with rfl | rfl<;>rcases hn with rfl | rfl
 ·exact .inl rfl
 ·exact .inr rfl
 ·exact .inr rfl
 ·exact .inl (Bw e)
theorem Sa (es:List Leg) : (VK es).Nodup:=by
 have ha:XB (qW false es []) :=Ww List.Pairwise.nil
 rw [VK]
 exact List.Pairwise.imp (fun {a b} (h:zY a b) (e:a=b) =>KV a (by rw [←e] at h;exact h)) (List.pairwise_map.2 ha)
theorem NQ {E1 E2:List Leg} {how:Int} (hE:TwoE E1 E2) : ((vq E1 E2 how).map Kz).Nodup:=by
 have key:∀ks:List Leg,(∀p∈ks,Key (E1++E2) p)→((ks.flatMap fun p=>M4 p (Vz (ZY E1 p).left (ZY E2 p).left how) (Vz (ZY E1 p).right (ZY E2 p).right how)).map Kz).Sublist ks:=by
  intro ks
  induction ks with
  | nil=>intro _;exact List.Sublist.slnil
  | cons p ks ih=>
   intro hk
   rw [je4,jfa]
   have h1:=jbB (hk p (jfd ..))
   have h2:=ih fun q hq=>hk q (je5 _ hq)
   unfold M4
   split
   ·simp only [jeZ,jfc,h1.1,jeG,jeL]
    exact h2.cons_cons p
   ·split
    ·simp only [jeZ,jfc,h1.2,jeG,jeL]
     exact h2.cons_cons p
    ·exact h2.cons p
 unfold vq Z4
 rw [jfr]
 exact(Sa _).sublist (key _ fun p hp=> (xq hE.ok hE.ne hp).1)
theorem Zg {E1 E2:List Leg} {how:Int} (hE:TwoE E1 E2) :BoOk (vq E1 E2 how) :=by
 refine⟨fun l hl=> ?_,?_⟩
 ·obtain ⟨e,he,h | h⟩ :=B4 hE hl
  ·rw [h];exact hE.ok e he
  ·rw [h]
   have:=hE.ok e he
   exact⟨this.2.2.1,this.2.2.2,this.1,this.2.1⟩
 ·have h1:=Lp (E1:=E1) (E2:=E2) (how:=how) (ks:=VK (E1++E2)) _ (jeD _)
  have h2:=Iv (es:=E1++E2)
  have h3:=hE.lnE
  have h4:=hE.lnF
  rw [jeC] at h2
  unfold vq
  omega
theorem Lq {E1 E2:List Leg} {how:Int} (hE:TwoE E1 E2) (hP:Tb (E1++E2)) :TrOk (vq E1 E2 how) :=by
 have hnd:=NQ (how:=how) hE
 have hin:∀i,i< (vq E1 E2 how).length→lg (vq E1 E2 how) i∈vq E1 E2 how:=fun i hi=>by rw [←yf hi];exact jeW hi
 have hne:∀i,i< (vq E1 E2 how).length→lA (lg (vq E1 E2 how) i)≠lB (lg (vq E1 E2 how) i) :=fun i hi=>by
  obtain ⟨e,he,h | h⟩ :=B4 hE (hin i hi)
  ·rw [h];exact hE.ne e he
  ·rw [h];exact fun k=>hE.ne e he k.symm
 have inj:∀i j,i< (vq E1 E2 how).length→j< (vq E1 E2 how).length→Kz (lg (vq E1 E2 how) i) =Kz (lg (vq E1 E2 how) j)→i=j:=fun i j hi hj h=>by
  have h1: ((vq E1 E2 how).map Kz)[i]'(by simpa using hi) = ((vq E1 E2 how).map Kz)[j]'(by simpa using hj) :=by
   rw [jfK,jfK,yf hi,yf hj];exact h
  exact(List.getElem_inj hnd).1 h1
 have ends:∀i,i< (vq E1 E2 how).length→∃e∈E1++E2,(lA e=lA (lg (vq E1 E2 how) i)∧lB e=lB (lg (vq E1 E2 how) i))∨(lA e=lB (lg (vq E1 E2 how) i)∧lB e=lA (lg (vq E1 E2 how) i)) :=fun i hi=>by
  obtain ⟨e,he,h | h⟩ :=B4 hE (hin i hi)
  ·exact⟨e,he, .inl ⟨by rw [h],by rw [h]⟩⟩
  ·exact⟨e,he, .inr ⟨by rw [h];rfl,by rw [h];rfl⟩⟩
 refine⟨hne,fun i j hi hj hij hv hs=> ?_,fun i j hi hj hv hs=> ?_⟩
 ·obtain ⟨e,he,k1⟩ :=ends i hi
  obtain ⟨f,hf,k2⟩ :=ends j hj
  have:=TS (hP e he f hf) (o:=lA (lg (vq E1 E2 how) i)) (p:=lB (lg (vq E1 E2 how) i)) (q:=lB (lg (vq E1 E2 how) j)) k1 (by rw [hv];exact k2) (Ne.symm (hne i hi)) (by rw [hv];exact Ne.symm (hne j hj)) hs
  exact hij (inj i j hi hj (by rw [xv hv this]))
 ·obtain ⟨e,he,k1⟩ :=ends j hj
  obtain ⟨f,hf,k2⟩ :=ends i hi
  have:=TS (hP e he f hf) (o:=lB (lg (vq E1 E2 how) i)) (p:=lB (lg (vq E1 E2 how) j)) (q:=lA (lg (vq E1 E2 how) i)) (by rw [←hv];exact k1) (k2.symm) (by rw [←hv];exact Ne.symm (hne j hj)) (hne i hi) hs
  have hr:lg (vq E1 E2 how) j=vO (lg (vq E1 E2 how) i) :=xv hv this
  have:=inj j i hj hi (by rw [hr,DL (hne i hi)])
  subst this
  exact hne j hj (by rw [hv])
def vY (E1 E2:List Leg) :List Nt:=qW true E2 (qW false E1 [])
theorem Ff (E1 E2:List Leg) :XB (vY E1 E2) :=Ww (Ww List.Pairwise.nil)
theorem MQ (E1 E2:List Leg) : (vY E1 E2).map (·.e) =VK (E1++E2) :=by
 have h2:XB (qW false (E1++E2) []) :=Ww List.Pairwise.nil
 refine Lm (List.pairwise_map.2 (Ff E1 E2)) (List.pairwise_map.2 h2) fun q=> ?_
 simp only [VK,je7]
 rw [show(∃a,a∈vY E1 E2∧a.e=q)↔_ from Wz,show(∃a,a∈qW false (E1++E2) []∧a.e=q)↔_ from Wz,Wz]
 simp only [jfQ,false_and,exists_false,false_or,jeY]
 constructor
 ·rintro(⟨e,h1,h2⟩ |⟨e,h1,h2⟩)
  ·exact⟨e, .inl h1,h2⟩
  ·exact⟨e, .inr h1,h2⟩
 ·rintro⟨e,h1 | h1,h2⟩
  ·exact .inl ⟨e,h1,h2⟩
  ·exact .inr ⟨e,h1,h2⟩
theorem jdK (E1 E2:List Leg) (F:Leg→Int) :wS false F (vY E1 E2) =sm (fun e=>sg e*F (Kz e)) E1:=by
 rw [vY,Yi,Yi]
 simp [wS,sm]
theorem jdL (E1 E2:List Leg) (F:Leg→Int) :wS true F (vY E1 E2) =sm (fun e=>sg e*F (Kz e)) E2:=by
 rw [vY,Yi,Yi]
 simp [wS,sm]
theorem Lt {es E:List Leg} (hsub:∀e∈es,e∈E) (hne:∀l∈E,lA l≠lB l) (hP:Tb E) {e0:Leg} (he0:e0∈E) :Fs es (Kz e0) :=by
 intro hl e he hn
 have he:=hsub e he
 have hne1:=hne e he
 have hne0:=hne e0 he0
 obtain ⟨m1,m2,m3⟩ :=jbI e0
 have hn':¬((lA e0=lA e∧lB e0=lB e)∨(lA e0=lB e∧lB e0=lA e)) :=by
  rintro(⟨h1,h2⟩ |⟨h1,h2⟩)
  ·exact hn (by rw [xv h1 h2])
  ·have:e=vO e0:=xv (by rw [←h2];rfl) (by rw [←h1];rfl)
   exact hn (by rw [this,DL hne0])
 have hl0:e0.ay=e0.b_y:=m3.1 hl
 have:=jbJ (a:=lA e0) (b:=lB e0) (c:=lA e) (d:=lB e) hl0 (fun h=>hne0 (Prod.ext h hl0)) hne1 hn' (hP e0 he0 e he)
 rw [m1,m2]
 exact this
theorem CX {s:Bool} {es:List Leg} {l:List Nt} (ha:XB l) (hw:∀F:Leg→Int,wS s F l=sm (fun e=>sg e*F (Kz e)) es) (hf:Fine es) {k:Nat} (hk:k<l.length) (hc:Fs es (nt l k).e) (hkey:Key es (nt l k).e) :
  ZY es (nt l k).e=⟨(nt l k).e,v6 s (nt l k),Qp s l k l.length+v6 s (nt l k),Qp s l k l.length⟩ :=by
 have h1:v6 s (nt l k) =xD es (nt l k).e:=by
  have:=jcO (s:=s) ha (XU hk)
  rw [←this]
  generalize (nt l k).e=p
  rw [hw]
  exact U2 fun e _=>by split<;>simp
 have h2:Qp s l k l.length=DU es (nt l k).e:=by
  rw [NM ha hk]
  generalize (nt l k).e=p
  rw [hw]
  rfl
 rw [jaj hf hc hkey.ord hkey.ne,h1,h2]
def XF (L:List Nt) (how:Int) (i:Nat) :List Leg:= (L.take i).flatMap fun x=>M4 x.e (Vz x.l1 x.l2 how) (Vz (x.l1- x.one) (x.l2- x.two) how)
theorem XG {L:List Nt} {how:Int} {i:Nat} (h:i<L.length) :XF L how (i+1) =XF L how i++M4 (nt L i).e (Vz (nt L i).l1 (nt L i).l2 how) (Vz ((nt L i).l1- (nt L i).one) ((nt L i).l2- (nt L i).two) how) :=by
 rw [XF,jeS h,jeQ,Yk h]
 simp [XF]
theorem FO {L:List Nt} {how:Int} :∀i,i≤L.length→(XF L how i).length≤i
 | 0,_=>by simp [XF]
 | i+1,h=>by
  have:=FO (L:=L) (how:=how) i (by omega)
  have h1:=Na (nt L i).e (Vz (nt L i).l1 (nt L i).l2 how) (Vz ((nt L i).l1- (nt L i).one) ((nt L i).l2- (nt L i).two) how)
  rw [XG (by omega),jeC]
  omega
theorem Cz {E1 E2:List Leg} {how:Int} (hE:TwoE E1 E2) (f1:Fine E1) (f2:Fine E2) (hP:Tb (E1++E2)) :XF (ul (vY E1 E2)) how (vY E1 E2).length=vq E1 E2 how:=by
 have hkl: (VK (E1++E2)).length= (vY E1 E2).length:=by rw [←MQ,jeX]
 have key:∀i,i≤(vY E1 E2).length→XF (ul (vY E1 E2)) how i=Z4 E1 E2 how (VK (E1++E2)) i:=by
  intro i
  induction i with
  | zero=>intro _;rfl
  | succ i ih=>
   intro hi
   have hik:i< (VK (E1++E2)).length:=by omega
   have hnt:=Nj (l:=vY E1 E2) (k:=i) (by omega)
   have hlg:lg (VK (E1++E2)) i= (nt (vY E1 E2) i).e:=by
    rw [←MQ]
    have hi':i< (vY E1 E2).length:=by omega
    simp [lg,nt,List.getD,hi']
   obtain ⟨hkey,e0,he0,hp⟩ :=xq hE.ok hE.ne (p:=lg (VK (E1++E2)) i) (by rw [←yf hik];exact jeW hik)
   have hc1:Fs E1 (nt (vY E1 E2) i).e:=by rw [←hlg,hp];exact Lt (fun e he=>jfE _ he) hE.ne hP he0
   have hc2:Fs E2 (nt (vY E1 E2) i).e:=by rw [←hlg,hp];exact Lt (fun e he=>jgd _ he) hE.ne hP he0
   have k1:Key E1 (nt (vY E1 E2) i).e:=by rw [←hlg];exact⟨hkey.ok,hkey.ne,hkey.ord⟩
   have k2:Key E2 (nt (vY E1 E2) i).e:=by rw [←hlg];exact⟨hkey.ok,hkey.ne,hkey.ord⟩
   have n1:=CX (Ff E1 E2) (jdK E1 E2) f1 (k:=i) (by omega) hc1 k1
   have n2:=CX (Ff E1 E2) (jdL E1 E2) f2 (k:=i) (by omega) hc2 k2
   rw [XG (by rw [Rl];omega),XE hik,ih (by omega),hnt,hlg,n1,n2]
   simp only [sdN,v6,jfC,if_false,if_true]
   rw [show Qp false (vY E1 E2) i (vY E1 E2).length+ (nt (vY E1 E2) i).one- (nt (vY E1 E2) i).one=Qp false (vY E1 E2) i (vY E1 E2).length by omega,
    show Qp true (vY E1 E2) i (vY E1 E2).length+ (nt (vY E1 E2) i).two- (nt (vY E1 E2) i).two=Qp true (vY E1 E2) i (vY E1 E2).length by omega]
 rw [key _ (jeD _),vq,hkl]
theorem jcn (E1 E2:List Leg) : (vY E1 E2).length≤E1.length+E2.length:=by
 have h1:=Wx (s:=true) E2 (qW false E1 [])
 have h2:=Wx (s:=false) E1 []
 rw [vY]
 simp only [je6] at h2
 omega
theorem jd8 (E1 E2:List Leg) (t:Bool) :aS t (vY E1 E2)≤E1.length+E2.length:=by
 have h1:=Yh (s:=true) (t:=t) E2 (qW false E1 [])
 have h2:=Yh (s:=false) (t:=t) E1 []
 rw [Cj] at h2
 rw [vY]
 split at h1<;>split at h2<;>omega
theorem Om (NL:List Nt) (x:Option Addr×Nat) (how:Int) (w:World) (hr: (JP 0 125 8 NL.length ((ul NL).flatMap qe) x).P w) (hl:NL.length≤4096) (ha:∀t,aS t NL≤16384) :
  Calls Tryz.prog 67 #[.slice x.1 NL.length x.2, .int .i64 how] w fun e w'=>∃v,e= .returned v∧w'.ownsRow w.heap.size 118 4 v (XF (ul NL) how NL.length).length ((XF (ul NL) how NL.length).flatMap jZ)∧Over w w':=by
 have hsl:=Rl NL
 refine jU (m:=84) (Tryz.func67) J J (lb J) ?_;refine S7 ?_;refine Jp J J (Yc) J (lb J) (fun b1=> ?_);refine vR 0 4 J J ?_;refine N8 ?_;refine JI (X:=Nat×Option Addr×Nat) (fun y=>y.1≤NL.length) (fun y=>NL.length- y.1) (fun y=> [(5, .slice y.2.1 (XF (ul NL) how y.1).length y.2.2),(6, .int .i64 (y.1:Int))]) (kK [0,1,4]) (fun y=> [JP (Bs.N ⟨w,[]⟩) 118 4 (XF (ul NL) how y.1).length ((XF (ul NL) how y.1).flatMap jZ) y.2]) (0,some ⟨b1,0,none⟩,0) (jeE _) ⟨J,sz⟩ (fun _ h=>h) ?_
 intro⟨i,rA,rc⟩ hi L hL1
 refine v9 ?_;refine ji (by first | (dsimp only;done) | (dsimp only;rfl) | rfl) ?_
 have hi:i≤NL.length:=hi
 have hbl:=FO (L:=ul NL) (how:=how) i (by omega)
 refine S8 ?_;refine cZ (fun c1=> ?_) (fun c1=> ?_)
 ·have hlt:i<NL.length:= (by omega)
  have hlS:i< (ul NL).length:= (by omega)
  have hst:=XG (how:=how) hlS
  have hnt:=Nj hlt
  have hd1:=Uz (s:=false) (k:=i) (jeD NL.length)
  have hd2:=Uz (s:=true) (k:=i) (jeD NL.length)
  have hc1:=Zi (s:=false) hlt
  have hc2:=Zi (s:=true) hlt
  have ha1:=ha false
  have ha2:=ha true
  simp only [v6,if_true,jfC,if_false] at hc1 hc2
  have e1: (sdN NL i).l1=Qp false NL i NL.length+ (nt NL i).one:=rfl
  have e2: (sdN NL i).l2=Qp true NL i NL.length+ (nt NL i).two:=rfl
  obtain ⟨X,hX⟩ :∃X,X=nt (ul NL) i:=⟨_,rfl⟩
  have hb1: -40000≤X.l1∧X.l1≤40000:= (by rw [hX,hnt,e1];omega)
  have hb2: -40000≤X.l2∧X.l2≤40000:= (by rw [hX,hnt,e2];omega)
  have hb3: -20000≤X.one∧X.one≤20000:= (by rw [hX,hnt];show-20000≤(nt NL i).one∧(nt NL i).one≤20000;omega)
  have hb4: -20000≤X.two∧X.two≤20000:= (by rw [hX,hnt];show-20000≤(nt NL i).two∧(nt NL i).two≤20000;omega)
  rw [←hX] at hst
  refine S8 ?_;refine a9 (qx (j:=i) (fun w hs=>q5 hr hs.fin) J J J Jz hlt) ?_;refine S4 ?_;refine Jw 11 ?_;refine dK 0 ?_;refine dK 1 ?_;refine dK 2 ?_;refine dZ 3 J (jr J J jz (ZL (i:=6) (v:= .int .i64 X.l1) (fun w hs=>q5 hr hs.fin) hlS (by omega) (by rw [hX];rfl))) ?_;refine dK 4 ?_;refine dK 5 ?_;refine dK 6 ?_;refine dZ 7 J (jr J J jz (ZL (i:=7) (v:= .int .i64 X.l2) (fun w hs=>q5 hr hs.fin) hlS (by omega) (by rw [hX];rfl))) ?_;refine dK 8 ?_;refine dZ 9 J (jH Uf J J (fun w1 hs=>GF X.l1 X.l2 how w1)) ?_;refine dK 10 ?_;refine Jj (by kernel_rfl) ?_;refine S3 ?_;refine Jw 21 ?_;refine dK 0 ?_;refine dK 1 ?_;refine dK 2 ?_;refine dZ 3 J (jr J J jz (ZL (i:=6) (v:= .int .i64 X.l1) (fun w hs=>q5 hr hs.fin) hlS (by omega) (by rw [hX];rfl))) ?_;refine dK 4 ?_;refine dK 5 ?_;refine dK 6 ?_;refine dZ 7 J (jr J J jz (ZL (i:=4) (v:= .int .i64 X.one) (fun w hs=>q5 hr hs.fin) hlS (by omega) (by rw [hX];rfl))) ?_;refine dK 8 ?_;refine dK 9 ?_;refine dK 10 ?_;refine dK 11 ?_;refine dZ 12 J (jr J J jz (ZL (i:=7) (v:= .int .i64 X.l2) (fun w hs=>q5 hr hs.fin) hlS (by omega) (by rw [hX];rfl))) ?_;refine dK 13 ?_;refine dK 14 ?_;refine dK 15 ?_;refine dZ 16 J (jr J J jz (ZL (i:=5) (v:= .int .i64 X.two) (fun w hs=>q5 hr hs.fin) hlS (by omega) (by rw [hX];rfl))) ?_;refine dK 17 ?_;refine dK 18 ?_;refine dZ 19 J (jH Uf J J (fun w1 hs=>GF (X.l1- X.one) (X.l2- X.two) how w1)) ?_;refine dK 20 ?_;refine Jj (by kernel_rfl) ?_
  obtain ⟨lf,hlf⟩ :∃lf,lf=Vz X.l1 X.l2 how:=⟨_,rfl⟩
  obtain ⟨rf,hrf⟩ :∃rf,rf=Vz (X.l1- X.one) (X.l2- X.two) how:=⟨_,rfl⟩
  rw [←hlf,←hrf] at hst
  rw [←hlf,←hrf]
  refine S2 ?_;refine qd [(50, .bool (lf&& !rf))] (kK [0,1,4,5,6,11,12,13,14,17,18,19,7,20,21,22,23,24,25,26,27,28,29,8,30,31,32,33,34,35,36,37,38,39,40,41,42,43,44,45,46,47,48,49,9]) (fun L h_8=> ?_) ?_
  ·refine S3 ?_;refine cV 52 (fun g1=> ?_) (fun g1=> ?_)
   ·refine S7 ?_
    exact Jb h_8 ⟨vb (by rw [g1,jfe]),sz⟩ (u9 J)
   ·refine S5 ?_
    exact Jb h_8 ⟨vb (by rw [g1,jfp]),sz⟩ (u9 J)
  ·refine v9 ?_;refine cZ (fun c2=> ?_) (fun c2=> ?_)
   ·refine S5 ?_;refine a9 (jj J J Kq J (z7 [.int .i64 X.e.ax, .int .i64 X.e.ay, .int .i64 X.e.bx, .int .i64 X.e.b_y] 0 (fun w hs=>q5 hr hs.fin) hlS (by omega) (by rw [hX];exact HM J J J J))) ?_;refine S1 ?_;refine Jp J J (wH J) J (lb J) (fun b2=> ?_);refine N1 ?_;refine JL (k:=0) J Jr QX (by decide) J (by decide) J J J (fun w' hs=>q6 hs (k:=1) J J) (by simp [Value.oneCell']) (by unfold maxLen;omega) (by omega) (jeD _) (fun r1=> ?_);refine N10 ?_
    exact j8 hL1 ((i+1,r1)) ((show i+1≤NL.length by omega)) (by simp only;omega) ⟨(by rw [hst,M4,if_pos c2,jeC];rfl),vi (by omega),sz⟩ (fun _ h=>h.upto ⟨by rw [hst,M4,if_pos c2,jeC,jeQ];rfl,trivial⟩)
   ·refine qd [(63, .bool (rf&& !lf))] (kK [0,1,4,5,6,11,12,13,14,17,18,19,7,20,21,22,23,24,25,26,27,28,29,8,30,31,32,33,34,35,36,37,38,39,40,41,42,43,44,45,46,47,48,49,9,50]) (fun L h_10=> ?_) ?_
    ·refine S3 ?_;refine cV 65 (fun g2=> ?_) (fun g2=> ?_)
     ·refine S7 ?_
      exact Jb h_10 ⟨vb (by rw [g2,jfe]),sz⟩ (u9 J)
     ·refine S5 ?_
      exact Jb h_10 ⟨vb (by rw [g2,jfp]),sz⟩ (u9 J)
    ·refine v9 ?_;refine cZ (fun c3=> ?_) (fun c3=> ?_)
     ·refine S1 ?_;refine Jw 13 ?_;refine dK 0 ?_;refine dV 1 [2,3,4,5,11,12] ?_;refine dV 2 [3,4,5,11,12] ?_;refine dV 3 [4,5,11,12] ?_;refine dV 4 [5,11,12] ?_;refine d9 5 J [11,12] (u9 J) (jj J J jl J (z7 [.int .i64 X.e.bx, .int .i64 X.e.b_y] 2 (fun w hs=>q5 hr hs.fin) hlS (by omega) (by rw [hX];exact ZS J J))) ?_;refine dV 6 [7,8,9,10,11,12] ?_;refine dV 7 [8,9,10,11,12] ?_;refine dV 8 [9,10,11,12] ?_;refine dV 9 [10,11,12] ?_;refine d9 10 J [11,12] (u9 J) (jj J J jl J (z7 [.int .i64 X.e.ax, .int .i64 X.e.ay] 0 (fun w hs=>q5 hr hs.fin) hlS (by omega) (by rw [hX];exact ZS J J))) ?_;refine d9 11 J [12] (u9 J) (JV J J (WS J J)) ?_;refine Jh (i:=12) J (by decide) (by kernel_rfl) J ?_;refine Jp J J (wH J) J (lb J) (fun b3=> ?_);refine n9 ?_;refine jJ (u9 J) ?_;refine K4 J (by kernel_rfl) J ?_;refine JL (k:=0) J Jr QX (by decide) J (by decide) J J J (fun w' hs=>q6 hs (k:=1) J J) (by simp [Value.oneCell']) (by unfold maxLen;omega) (by omega) (jeD _) (fun r2=> ?_);refine n9 ?_;refine Jw 15 ?_;refine dK 14 ?_;refine Jj (by kernel_rfl) ?_;refine S8 ?_
      exact j8 hL1 ((i+1,r2)) ((show i+1≤NL.length by omega)) (by simp only;omega) ⟨(by rw [hst,M4,if_neg (by rw [c2];simp),if_pos c3,jeC];rfl),vi (by omega),sz⟩ (fun _ h=>h.upto ⟨by rw [hst,M4,if_neg (by rw [c2];simp),if_pos c3,jeC,jeQ];rfl,trivial⟩)
     ·refine S9 ?_
      exact j8 hL1 ((i+1,rA,rc)) ((show i+1≤NL.length by omega)) (by simp only;omega) ⟨(by rw [hst,M4,if_neg (by rw [c2];simp),if_neg (by rw [c3];simp),je8];rfl),vi (by omega),sz⟩ (fun _ h=>h.upto ⟨by rw [hst,M4,if_neg (by rw [c2];simp),if_neg (by rw [c3];simp),je8],trivial⟩)
 ·have hik:i=NL.length:= (by omega)
  rw [hik]
  refine S11 ?_;refine jL J (.tmp J) ?_
  intro w' hs
  have hr2:=hs.all 0 _ rfl
  exact⟨_,rfl,KS hr2.1 (fun b hb=> (hr2.2.1 b hb).elim id (fun h=>by cases h)),hs.fin⟩
end Go.Proofs.YtkagkgjjfdkoaaaGreat
namespace Go.Proofs.YtkagkgjjfdkoaaaGreat
open Go Go.RowKit
theorem E3 {es:List (Pn×Pn)} {z:Pn} (h1:Lk es z) (h2:∀e,es.head?=some e→e.1=z) :vL (es.map (·.1)) =es:=by
 obtain ⟨g1,g2⟩ :=Es h1
 have hp:∀j (hj:j<es.length),pt (es.map (·.1)) j=es[j].1:=fun j hj=>by
  rw [←Kl (by simpa using hj)]
  simp
 refine jfR (by simp [vL]) fun j hj hj'=> ?_
 simp only [vL,jfK,jgb]
 refine Prod.ext (hp j hj') ?_
 show pt (es.map (·.1)) (nx (es.map (·.1)) j) =_
 by_cases hj1:j+1<es.length
 ·rw [show nx (es.map (·.1)) j=j+1 from jfY (by simpa using hj1),hp _ hj1,←g1 j hj1]
 ·have hk:0<es.length:=by omega
  rw [show nx (es.map (·.1)) j=0 by unfold nx;rw [jeX,show j+1=es.length by omega,Nat.mod_self],hp 0 hk]
  have hz: (es[0]'hk).1=z:=h2 _ (by cases es with | nil=>simp at hk | cons a l=>rfl)
  have:es.length- 1=j:=by omega
  rw [hz,←g2 hk]
  simp only [this]
theorem RW {xs:List Pn} (h0:0<xs.length) (hk:0< (KY xs).length) :J0 (KY xs) =J0 xs:=by
 obtain ⟨h1,h2⟩ :=OY h0
 have e:KY xs= ((J0 xs).map Sh).map (·.1) :=by rw [List.map_map];rfl
 rw [Vc (O7 h0 hk),e,E3 h1 h2,List.map_map]
 conv=>rhs;rw [←List.map_id (J0 xs)]
 rfl
theorem OL (rs ss:List jS) :∀k,k≤rs.length→Qg (rs++ss) k=Qg rs k
 | 0,_=>rfl
 | k+1,hk=>by
  show Qg (rs++ss) k++J0 (rg (rs++ss) k) =Qg rs k++J0 (rg rs k)
  rw [OL rs ss k (by omega)]
  congr 2
  simp only [rg,List.getD_eq_getElem?_getD,List.getElem?_append_left (show k<rs.length by omega)]
theorem Lj (rs ss:List jS) :∀k,Qg (rs++ss) (rs.length+k) =Jm rs++Qg ss k
 | 0=>by
  rw [jgg,OL rs ss _ (jeD _)]
  exact(je8 _).symm
 | k+1=>by
  show Qg (rs++ss) (rs.length+k) ++J0 (rg (rs++ss) (rs.length+k)) =Jm rs++ (Qg ss k++J0 (rg ss k))
  rw [Lj rs ss k,jeN]
  congr 3
  simp only [rg,List.getD_eq_getElem?_getD,List.getElem?_append_right (Nat.le_add_right _ _),Nat.add_sub_cancel_left]
theorem yq (rs ss:List jS) :Jm (rs++ss) =Jm rs++Jm ss:=by
 unfold Jm
 rw [jeC]
 exact Lj rs ss _
theorem Df (r:jS) :Jm [r] =J0 r:=rfl
theorem ZZ {rs:List jS} (hr:JO rs=true) :∀k,k≤rs.length→Jm (K3 rs k) =Qg rs k
 | 0,_=>rfl
 | k+1,hk=>by
  have ih:=ZZ hr k (by omega)
  have hp:=Qa (kU hr (show k<rs.length by omega))
  show _=Qg rs k++J0 (rg rs k)
  by_cases h:0< (KY (rg rs k)).length
  ·rw [yi (by omega) h,yq,ih,Df,RW hp.1 h]
  ·rw [zn (by omega) h,ih]
   have e: (J0 (rg rs k)).length= (KY (rg rs k)).length:= (jeX ..).symm
   rw [je9 (show(J0 (rg rs k)).length=0 by omega),je8]
theorem Vw {rs:List jS} (hr:JO rs=true) :Jm (J4 rs) =Jm rs:=ZZ hr _ (jeD _)
theorem Ea {E:List Leg} (hE:∀l∈E,qO l) (hl:E.length≤400) {ss:List jS} (hr:JO ss=true) (hb:∀r∈ss,bare r) (hs:∀l∈Jm ss,l∈E) :HotOk (jbw E) ss:=by
 have hends:∀l∈E,lA l∈jbw E:=fun l hl=>by
  obtain ⟨k,hk,e⟩ :=jfm hl
  have:= (Im (E:=E) _ (jeD _) k hk).1
  rw [jdh hk,e] at this
  exact(yD _ _).2 this
 refine⟨hr,fun p hp=>yj (Tu hE _ (jeD _) p ((yD _ _).1 hp)),ZJ _,NI (ZJ _),?_,fun r h=>⟨hb r h,fun p hp=> ?_⟩⟩
 ·have h1:=ZK (Yf E E.length)
  have h2:=zt E E.length
  have h3:E.length* (E.length+2)≤400*402:=Nat.mul_le_mul hl (by omega)
  unfold jbw
  omega
 ·have hbr:=hb r h
  have hp2:p∈(J0 r).map lA:=by
   rw [Vc hbr,List.map_map]
   have e2: (vL r).map (lA∘mkL) = (vL r).map (·.1) :=rfl
   rw [e2,Bp]
   exact hp
  obtain ⟨l,hl,rfl⟩ :=je7.1 hp2
  exact hends l (hs l (zx.2 ⟨r,h,hl⟩))
structure CmOk (rs ss:List jS) :Prop where
 r1:JO rs=true
 r2:JO ss=true
 len: (Jm rs++Jm ss).length≤400
def Fm (rs ss:List jS) :List Leg:=Jm rs++Jm ss
def Yv (rs ss:List jS) :List Pn:=jbw (Fm rs ss)
def Yu (rs ss:List jS) :List jS:=Rp (Yv rs ss) (J4 rs)
def yo (rs ss:List jS) :List jS:=Rp (Yv rs ss) (J4 ss)
def W6 (rs ss:List jS) :Bool:=D8 (Yv rs ss) (J4 rs)
def Uu (rs ss:List jS) :Bool:=D8 (Yv rs ss) (J4 ss)
def Kh (rs ss:List jS) (how:Int) :List Leg:=vq (Jm (Yu rs ss)) (Jm (yo rs ss)) how
def vJ (rs ss:List jS) (how:Int) :List jS:=Wk (Kh rs ss how)
section
variable {rs ss:List jS}
theorem CmOk.legs (h:CmOk rs ss) :∀l∈Fm rs ss,qO l:=fun l hl=> (jeY.1 hl).elim (jak h.r1 l) (jak h.r2 l)
theorem CmOk.hot1 (h:CmOk rs ss) :HotOk (Yv rs ss) (J4 rs) :=Ea h.legs h.len (yh h.r1) (Yl h.r1) fun l hl=>jfE _ (by rwa [Vw h.r1] at hl)
theorem CmOk.hot2 (h:CmOk rs ss) :HotOk (Yv rs ss) (J4 ss) :=Ea h.legs h.len (yh h.r2) (Yl h.r2) fun l hl=>jgd _ (by rwa [Vw h.r2] at hl)
theorem GW {hot:List Pn} {rs:List jS} (hk:HotOk hot rs) (h:D8 hot rs=true) :JO (Rp hot rs) =true∧qT hot (Rp hot rs) =Rp hot rs∧∃n,Rp hot rs=Iq hot n rs:=by
 cases hs:MI hot rs with
 | none=>rw [(D9 hs).2.2] at h;cases h
 | some x=>
  obtain ⟨s,r⟩ :=x
  rw [(Fa hs).1]
  exact⟨jaK hk.nd hk.reg hk.bare hs,Nr _ hs⟩
theorem CmOk.pair (h:CmOk rs ss) (ha:W6 rs ss=true) (hb:Uu rs ss=true) :Tb (Jm (Yu rs ss) ++Jm (yo rs ss)) :=by
 have k1:=h.hot1
 have k2:=h.hot2
 obtain ⟨_,f1,n1,i1⟩ :=GW k1 ha
 obtain ⟨_,f2,n2,i2⟩ :=GW k2 hb
 have e1:Iq (Yv rs ss) (n1+n2) (J4 rs) =Yu rs ss:=by rw [Dq,←i1,Dr f1];rfl
 have e2:Iq (Yv rs ss) (n1+n2) (J4 ss) =yo rs ss:=by rw [Nat.add_comm,Dq,←i2,Dr f2];rfl
 have e:Iq (Yv rs ss) (n1+n2) (J4 rs++J4 ss) =Yu rs ss++yo rs ss:=by rw [Ty,e1,e2]
 have hb0:bareG (Yv rs ss) (J4 rs++J4 ss) :=fun r hr=> (jeY.1 hr).elim (k1.bare r) (k2.bare r)
 have he0:Jm (J4 rs++J4 ss) =Fm rs ss:=by rw [yq,Vw h.r1,Vw h.r2];rfl
 have hi:=Tz k1.nd (n1+n2) _ hb0 (by rw [he0];exact Pb fun p hp=> (yD _ _).2 hp)
 rw [e] at hi
 have hfix:qT (Yv rs ss) (Yu rs ss++yo rs ss) =Yu rs ss++yo rs ss:=by
  unfold qT at*
  rw [jfa]
  have a: (Yu rs ss).map (Km (Yv rs ss)) =Yu rs ss:=f1
  have b: (yo rs ss).map (Km (Yv rs ss)) =yo rs ss:=f2
  rw [a,b]
 have hx:=Ip k1.nd hi.1 hi.2
 rw [hfix] at hx
 intro x hx1 y hy1
 rw [←yq] at hx1 hy1
 exact P6 hi.1 hfix hx (fun p hp=>yz (k1.ok p hp)) hx1 hy1
theorem CmOk.two (h:CmOk rs ss) (ha:W6 rs ss=true) (hb:Uu rs ss=true) :TwoE (Jm (Yu rs ss)) (Jm (yo rs ss)) :=by
 obtain ⟨r1,_⟩ :=GW h.hot1 ha
 obtain ⟨r2,_⟩ :=GW h.hot2 hb
 have g1:=Z9 r1
 have g2:=Z9 r2
 exact⟨g1.ok,g2.ok,g1.ne,g2.ne,Ga r1,Ga r2⟩
theorem CmOk.okT (h:CmOk rs ss) (ha:W6 rs ss=true) (hb:Uu rs ss=true) (how:Int) :okRs (vJ rs ss how) :=by
 have hB:BoOk (Kh rs ss how) :=Zg (h.two ha hb)
 have hl:=hB.len
 obtain ⟨h1,h2⟩ :=U3 (B:=Kh rs ss how) _ (jeD _)
 refine⟨by unfold vJ Wk;omega,fun r hr=> ?_⟩
 obtain ⟨g1,g2,g3⟩ :=h2 r hr
 refine⟨g1,by omega,fun p hp=> ?_⟩
 obtain ⟨j,hj,rfl⟩ :=g3 p hp
 exact(wL (Q6 hB.ok hj)).wide
end
def XL (rs:List jS) :List jS:=if JO rs=true then rs else []
def Hi (rs:List jS) :Int:=if JO rs=true then 0 else 5
theorem RZ (rs:List jS) :smallR (XL rs) :=by
 unfold XL
 split
 ·exact smallR.of (by assumption)
 ·exact smallR.nil
def xl (how:Int) :Bool:=decide (1≤how) &&decide (how≤4)
def wm (rs ss:List jS) :Bool:=JO rs&&JO ss
def zU (rs ss:List jS) :Bool:=decide ((Jm rs++Jm ss).length≤400) && (W6 rs ss&&Uu rs ss)
def Ob (rs ss:List jS) (how:Int) :List jS:=if zU rs ss=true then XL (VD (vJ rs ss how)) else []
def NS (rs ss:List jS) (how:Int) :Int:=if zU rs ss=true then Hi (VD (vJ rs ss how)) else 5
def qD (rs ss:List jS) (how:Int) :List jS:=if wm rs ss=true then(if xl how=true then Ob rs ss how else []) else []
def wT (rs ss:List jS) (how:Int) :Int:=if wm rs ss=true then(if xl how=true then NS rs ss how else 2) else 1
theorem NT (rs ss:List jS) (how:Int) :smallR (Ob rs ss how) :=by
 unfold Ob
 split
 ·exact RZ _
 ·exact smallR.nil
theorem WB (rs ss:List jS) (how:Int) :smallR (qD rs ss how) :=by
 unfold qD
 split
 ·split
  ·exact NT ..
  ·exact smallR.nil
 ·exact smallR.nil
end Go.Proofs.YtkagkgjjfdkoaaaGreat
