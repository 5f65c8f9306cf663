import Derived.Test.YtpncbbcmoiiipaaGreatKBrd
import Derived.Test.YtpncbbcmoiiipaaGreatKSnapG
import Derived.Test.YtpncbbcmoiiipaaGreatKTrI
import Derived.Test.YtpncbbcmoiiipaaGreatKNums
import Derived.Test.YtpncbbcmoiiipaaGreatKNetT
set_option linter.unusedVariables false
set_option linter.unusedSimpArgs false
namespace Go.Proofs.YtpncbbcmoiiipaaGreat
open Go Go.RowKit
set_option maxRecDepth 100000
set_option maxHeartbeats 4000000
theorem jeT {o p q:Pn} (hp:p≠o) (hq:q≠o) (h:Uk o p q) :uO o q p=true∨uO o p q=true:=by
 obtain ⟨ht,hd⟩ :=h
 have ht':tn o q p=0:=by rw [Mv];omega
 by_cases h1:uO o q p=true
 ·exact .inl h1
 by_cases h2:uO o p q=true
 ·exact .inr h2
 exfalso
 obtain ⟨m,n,hm,hn,e1,e2⟩ :=He (Ne.symm hq) ht' h1
 obtain ⟨m',n',hm',hn',e1',e2'⟩ :=He (Ne.symm hp) ht h2
 have hne:p.1- o.1≠0∨p.2- o.2≠0:=by
  by_cases k:p.1- o.1=0
  ·exact .inr fun k2=>hp (Prod.ext Om Om)
  ·exact .inl k
 have hne':q.1- o.1≠0∨q.2- o.2≠0:=by
  by_cases k:q.1- o.1=0
  ·exact .inr fun k2=>hq (Prod.ext Om Om)
  ·exact .inl k
 have hP:0< (p.1- o.1) * (p.1- o.1) + (p.2- o.2) * (p.2- o.2) :=by
  have s1:=kV (a:=p.1- o.1) (b:=p.1- o.1) rfl
  have s2:=kV (a:=p.2- o.2) (b:=p.2- o.2) rfl
  omega
 have hQ:0< (q.1- o.1) * (q.1- o.1) + (q.2- o.2) * (q.2- o.2) :=by
  have s1:=kV (a:=q.1- o.1) (b:=q.1- o.1) rfl
  have s2:=kV (a:=q.2- o.2) (b:=q.2- o.2) rfl
  omega
 have f1:n* (q.1- o.1) = (n- m) * (p.1- o.1) :=by
  have:n* (q.1- o.1) =n* (q.1- p.1) +n* (p.1- o.1) :=by grind
  rw [this,←e1];grind
 have f2:n* (q.2- o.2) = (n- m) * (p.2- o.2) :=by
  have:n* (q.2- o.2) =n* (q.2- p.2) +n* (p.2- o.2) :=by grind
  rw [this,←e2];grind
 have f1':n'* (p.1- o.1) = (n'- m') * (q.1- o.1) :=by
  have:n'* (p.1- o.1) =n'* (p.1- q.1) +n'* (q.1- o.1) :=by grind
  rw [this,←e1'];grind
 have f2':n'* (p.2- o.2) = (n'- m') * (q.2- o.2) :=by
  have:n'* (p.2- o.2) =n'* (p.2- q.2) +n'* (q.2- o.2) :=by grind
  rw [this,←e2'];grind
 generalize p.1- o.1=p1 at*
 generalize p.2- o.2=p2 at*
 generalize q.1- o.1=q1 at*
 generalize q.2- o.2=q2 at*
 have g1:n* (q1*q1+q2*q2) = (n- m) * (p1*q1+p2*q2) :=by
  have:n* (q1*q1+q2*q2) =q1* (n*q1) +q2* (n*q2) :=by grind
  rw [this,f1,f2];grind
 have g2:n'* (p1*p1+p2*p2) = (n'- m') * (p1*q1+p2*q2) :=by
  have:n'* (p1*p1+p2*p2) =p1* (n'*p1) +p2* (n'*p2) :=by grind
  rw [this,f1',f2'];grind
 have k1:=jiU hn hQ
 have k2:=jiU hn' hP
 have s1:=kV (a:=n- m) (b:=p1*q1+p2*q2) rfl
 have s2:=kV (a:=n'- m') (b:=p1*q1+p2*q2) rfl
 have a1:0<n- m:=by omega
 have a2:0<n'- m':=by omega
 have g3:n*n'* (p1*p1+p2*p2) = (n- m) * (n'- m') * (p1*p1+p2*p2) :=by
  have x1:n*n'* (p1*p1+p2*p2) =p1* (n* (n'*p1)) +p2* (n* (n'*p2)) :=by grind
  rw [x1,f1',f2']
  have x2:p1* (n* ((n'- m') *q1)) +p2* (n* ((n'- m') *q2)) = (n'- m') * (p1* (n*q1) +p2* (n*q2)) :=by grind
  rw [x2,f1,f2]
  grind
 have b1: (n- m) * (n'- m')≤(n- m) *n':=jiT Om Om
 have b2: (n- m) *n'<n*n':=jiz Om hn'
 have b3:=jiz (show(n- m) * (n'- m') <n*n' by omega) hP
 omega
theorem Ch {a b c d o p q:Pn} (h:ve a b c d=true) (h1: (a=o∧b=p)∨(a=p∧b=o)) (h2: (c=o∧d=q)∨(c=q∧d=o)) (hp:p≠o) (hq:q≠o) (hs:Uk o p q) :p=q:=Decidable.byContradiction fun hpq=>by
 have ona:∀x,uO o p x=true→uO a b x=true:=fun x hx=>by
  rcases h1 with⟨rfl,rfl⟩ |⟨rfl,rfl⟩
  ·exact hx
  ·rw [SM];exact hx
 have onc:∀x,uO o q x=true→uO c d x=true:=fun x hx=>by
  rcases h2 with⟨rfl,rfl⟩ |⟨rfl,rfl⟩
  ·exact hx
  ·rw [SM];exact hx
 have mem:∀x,x=o∨x=p∨x=q→uO o p x=true→uO o q x=true→x∈Qk a b c d:=fun x h0 k1 k2=>qL.2 ⟨by
  rcases h1 with⟨rfl,rfl⟩ |⟨rfl,rfl⟩ <;>rcases h2 with⟨rfl,rfl⟩ |⟨rfl,rfl⟩ <;>rcases h0 with rfl | rfl | rfl<;>simp,by
  unfold kk
  rw [ona x k1,onc x k2]
  rfl⟩
 have ho:=mem o (.inl rfl) (wh o p) (wh o q)
 have h3:qU a b c d=3:=by
  rcases jeT hp hq hs with k | k
  ·exact GW ho (mem p (.inr (.inl rfl)) (wT o p) k) (Ne.symm hp)
  ·exact GW ho (mem q (.inr (.inr rfl)) k (wT o q)) (Ne.symm hq)
 have hap:kG a b c d=false:=by
  rw [kG]
  simp only [Bool.or_eq_false_iff,decide_eq_false_iff_not]
  rcases h1 with⟨rfl,rfl⟩ |⟨rfl,rfl⟩ <;>rcases h2 with⟨rfl,rfl⟩ |⟨rfl,rfl⟩ <;>omega
 unfold ve at h
 rw [hap,h3] at h
 simp only [jjg,if_false,show¬((3:Int) =2) by omega,show¬((3:Int) =1) by omega,if_true,decide_eq_true_eq] at h
 rcases h1 with⟨rfl,rfl⟩ |⟨rfl,rfl⟩ <;>rcases h2 with⟨rfl,rfl⟩ |⟨rfl,rfl⟩ <;>rcases h with⟨k1,k2⟩ |⟨k1,k2⟩ <;>first | exact hpq k1 | exact hpq k2 | exact hpq k1.symm | exact hpq k2.symm | exact hp k1 | exact hp k2 | exact hq k1 | exact hq k2 | exact hp k1.symm | exact hq k2.symm | exact hp k2.symm | exact hq k1.symm
def x6 (E:List Leg) :Prop:=∀e∈E,∀f∈E,ve (lA e) (lB e) (lA f) (lB f) =true
theorem jfo {p l:Leg} {a b:Bool} (h:l∈zk p a b) :l=p∨l=Qn p:=by
 unfold zk at h
 split at h
 ·exact .inl (jik.1 h)
 ·split at h
  ·exact .inr (jik.1 h)
  ·cases h
theorem jeF {es:List Leg} {p:Leg} (h:Key es p) :Q5 p=p∧Q5 (Qn p) =p:=by
 have h1:Q5 p=p:=by unfold Q5;rw [if_neg h.ord]
 exact⟨h1,by rw [U5 h.ne,h1]⟩
theorem Mb {E1 E2:List Leg} {how:Int} (hE:TwoE E1 E2) {l:Leg} (h:l∈vn E1 E2 how) :∃e∈E1++E2,(l=e∨l=Qn e) :=by
 unfold vn xe at h
 rw [jiX] at h
 obtain ⟨p,hp,hl⟩ :=jjL.1 h
 obtain ⟨_,e,he,h2⟩ :=ZB hE.ok hE.ne hp
 refine⟨e,he,?_⟩
 have hn:p=e∨p=Qn e:=by rw [h2];unfold Q5;split<;>simp
 rcases jfo hl with rfl | rfl<;>rcases hn with rfl | rfl
 ·exact .inl rfl
 ·exact .inr rfl
 ·exact .inr rfl
 ·exact .inl (Ho e)
theorem xu (es:List Leg) : (KI es).Nodup:=by
 have ha:x5 (Qd false es []) :=wY List.Pairwise.nil
 rw [KI]
 exact List.Pairwise.imp (fun {a b} (h:Z4 a b) (e:a=b) =>vz a (by rw [←e] at h;exact h)) (List.pairwise_map.2 ha)
theorem Er {E1 E2:List Leg} {how:Int} (hE:TwoE E1 E2) : ((vn E1 E2 how).map Q5).Nodup:=by
 have key:∀ks:List Leg,(∀p∈ks,Key (E1++E2) p)→((ks.flatMap fun p=>zk p (Qy (kX E1 p).left (kX E2 p).left how) (Qy (kX E1 p).right (kX E2 p).right how)).map Q5).Sublist ks:=by
  intro ks
  induction ks with
  | nil=>intro _;exact List.Sublist.slnil
  | cons p ks ih=>
   intro hk
   rw [jiB,jiO]
   have h1:=jeF (hk p (jiE ..))
   have h2:=ih fun q hq=>hk q (jiq _ hq)
   unfold zk
   split
   ·simp only [jiA,jiM,h1.1,jiJ,jiW]
    exact h2.cons_cons p
   ·split
    ·simp only [jiA,jiM,h1.2,jiJ,jiW]
     exact h2.cons_cons p
    ·exact h2.cons p
 unfold vn xe
 rw [jiX]
 exact(xu _).sublist (key _ fun p hp=> (ZB hE.ok hE.ne hp).1)
theorem xg {E1 E2:List Leg} {how:Int} (hE:TwoE E1 E2) :BoOk (vn E1 E2 how) :=by
 refine⟨fun l hl=> ?_,?_⟩
 ·obtain ⟨e,he,h | h⟩ :=Mb hE hl
  ·rw [h];exact hE.ok e he
  ·rw [h]
   have:=hE.ok e he
   exact⟨this.2.2.1,this.2.2.2,this.1,this.2.1⟩
 ·have h1:=MH (E1:=E1) (E2:=E2) (how:=how) (ks:=KI (E1++E2)) _ (jih _)
  have h2:=Sh (es:=E1++E2)
  have h3:=hE.lnE
  have h4:=hE.lnF
  rw [jif] at h2
  unfold vn
  omega
theorem MI {E1 E2:List Leg} {how:Int} (hE:TwoE E1 E2) (hP:x6 (E1++E2)) :TrOk (vn E1 E2 how) :=by
 have hnd:=Er (how:=how) hE
 have hin:∀i,i< (vn E1 E2 how).length→lg (vn E1 E2 how) i∈vn E1 E2 how:=fun i hi=>by rw [←Uz hi];exact jis hi
 have hne:∀i,i< (vn E1 E2 how).length→lA (lg (vn E1 E2 how) i)≠lB (lg (vn E1 E2 how) i) :=fun i hi=>by
  obtain ⟨e,he,h | h⟩ :=Mb hE (hin i hi)
  ·rw [h];exact hE.ne e he
  ·rw [h];exact fun k=>hE.ne e he k.symm
 have inj:∀i j,i< (vn E1 E2 how).length→j< (vn E1 E2 how).length→Q5 (lg (vn E1 E2 how) i) =Q5 (lg (vn E1 E2 how) j)→i=j:=fun i j hi hj h=>by
  have h1: ((vn E1 E2 how).map Q5)[i]'(by simpa using hi) = ((vn E1 E2 how).map Q5)[j]'(by simpa using hj) :=by
   rw [jjs,jjs,Uz hi,Uz hj];exact h
  exact(List.getElem_inj hnd).1 h1
 have ends:∀i,i< (vn E1 E2 how).length→∃e∈E1++E2,(lA e=lA (lg (vn E1 E2 how) i)∧lB e=lB (lg (vn E1 E2 how) i))∨(lA e=lB (lg (vn E1 E2 how) i)∧lB e=lA (lg (vn E1 E2 how) i)) :=fun i hi=>by
  obtain ⟨e,he,h | h⟩ :=Mb hE (hin i hi)
  ·exact⟨e,he, .inl ⟨by rw [h],by rw [h]⟩⟩
  ·exact⟨e,he, .inr ⟨by rw [h];rfl,by rw [h];rfl⟩⟩
 refine⟨hne,fun i j hi hj hij hv hs=> ?_,fun i j hi hj hv hs=> ?_⟩
 ·obtain ⟨e,he,k1⟩ :=ends i hi
  obtain ⟨f,hf,k2⟩ :=ends j hj
  have:=Ch (hP e he f hf) (o:=lA (lg (vn E1 E2 how) i)) (p:=lB (lg (vn E1 E2 how) i)) (q:=lB (lg (vn E1 E2 how) j)) k1 (by rw [hv];exact k2) (Ne.symm (hne i hi)) (by rw [hv];exact Ne.symm (hne j hj)) hs
  exact hij (inj i j hi hj (by rw [U3 hv this]))
 ·obtain ⟨e,he,k1⟩ :=ends j hj
  obtain ⟨f,hf,k2⟩ :=ends i hi
  have:=Ch (hP e he f hf) (o:=lB (lg (vn E1 E2 how) i)) (p:=lB (lg (vn E1 E2 how) j)) (q:=lA (lg (vn E1 E2 how) i)) (by rw [←hv];exact k1) (k2.symm) (by rw [←hv];exact Ne.symm (hne j hj)) (hne i hi) hs
  have hr:lg (vn E1 E2 how) j=Qn (lg (vn E1 E2 how) i) :=U3 hv this
  have:=inj j i hj hi (by rw [hr,U5 (hne i hi)])
  subst this
  exact hne j hj (by rw [hv])
def VN (E1 E2:List Leg) :List Nt:=Qd true E2 (Qd false E1 [])
theorem IS (E1 E2:List Leg) :x5 (VN E1 E2) :=wY (wY List.Pairwise.nil)
theorem Bg (E1 E2:List Leg) : (VN E1 E2).map (·.e) =KI (E1++E2) :=by
 have h2:x5 (Qd false (E1++E2) []) :=wY List.Pairwise.nil
 refine zv (List.pairwise_map.2 (IS E1 E2)) (List.pairwise_map.2 h2) fun q=> ?_
 simp only [KI,jip]
 rw [show(∃a,a∈VN E1 E2∧a.e=q)↔_ from wZ,show(∃a,a∈Qd false (E1++E2) []∧a.e=q)↔_ from wZ,wZ]
 simp only [ji3,false_and,exists_false,false_or,jiv]
 constructor
 ·rintro(⟨e,h1,h2⟩ |⟨e,h1,h2⟩)
  ·exact⟨e, .inl h1,h2⟩
  ·exact⟨e, .inr h1,h2⟩
 ·rintro⟨e,h1 | h1,h2⟩
  ·exact .inl ⟨e,h1,h2⟩
  ·exact .inr ⟨e,h1,h2⟩
theorem jhd (E1 E2:List Leg) (F:Leg→Int) :wS false F (VN E1 E2) =sm (fun e=>sg e*F (Q5 e)) E1:=by
 rw [VN,zq,zq]
 simp [wS,sm]
theorem jhe (E1 E2:List Leg) (F:Leg→Int) :wS true F (VN E1 E2) =sm (fun e=>sg e*F (Q5 e)) E2:=by
 rw [VN,zq,zq]
 simp [wS,sm]
theorem ML {es E:List Leg} (hsub:∀e∈es,e∈E) (hne:∀l∈E,lA l≠lB l) (hP:x6 E) {e0:Leg} (he0:e0∈E) :I7 es (Q5 e0) :=by
 intro hl e he hn
 have he:=hsub e he
 have hne1:=hne e he
 have hne0:=hne e0 he0
 obtain ⟨m1,m2,m3⟩ :=jeN e0
 have hn':¬((lA e0=lA e∧lB e0=lB e)∨(lA e0=lB e∧lB e0=lA e)) :=by
  rintro(⟨h1,h2⟩ |⟨h1,h2⟩)
  ·exact hn (by rw [U3 h1 h2])
  ·have:e=Qn e0:=U3 (by rw [←h2];rfl) (by rw [←h1];rfl)
   exact hn (by rw [this,U5 hne0])
 have hl0:e0.ay=e0.b_y:=m3.1 hl
 have:=jeO (a:=lA e0) (b:=lB e0) (c:=lA e) (d:=lB e) hl0 (fun h=>hne0 (Prod.ext h hl0)) hne1 hn' (hP e0 he0 e he)
 rw [m1,m2]
 exact this
theorem jbI {s:Bool} {es:List Leg} {l:List Nt} (ha:x5 l) (hw:∀F:Leg→Int,wS s F l=sm (fun e=>sg e*F (Q5 e)) es) (hf:Fine es) {k:Nat} (hk:k<l.length) (hc:I7 es (nt l k).e) (hkey:Key es (nt l k).e) :
  kX es (nt l k).e=⟨(nt l k).e,VP s (nt l k),QE s l k l.length+VP s (nt l k),QE s l k l.length⟩ :=by
 have h1:VP s (nt l k) =Qe es (nt l k).e:=by
  have:=jf5 (s:=s) ha (GZ hk)
  rw [←this]
  generalize (nt l k).e=p
  rw [hw]
  exact JW fun e _=>by split<;>simp
 have h2:QE s l k l.length=Ir es (nt l k).e:=by
  rw [El ha hk]
  generalize (nt l k).e=p
  rw [hw]
  rfl
 rw [jc5 hf hc hkey.ord hkey.ne,h1,h2]
def GC (L:List Nt) (how:Int) (i:Nat) :List Leg:= (L.take i).flatMap fun x=>zk x.e (Qy x.l1 x.l2 how) (Qy (x.l1- x.one) (x.l2- x.two) how)
theorem GD {L:List Nt} {how:Int} {i:Nat} (h:i<L.length) :GC L how (i+1) =GC L how i++zk (nt L i).e (Qy (nt L i).l1 (nt L i).l2 how) (Qy ((nt L i).l1- (nt L i).one) ((nt L i).l2- (nt L i).two) how) :=by
 rw [GC,jin h,jio,zw h]
 simp [GC]
theorem Rx {L:List Nt} {how:Int} :∀i,i≤L.length→(GC L how i).length≤i
 | 0,_=>by simp [GC]
 | i+1,h=>by
  have:=Rx (L:=L) (how:=how) i Om
  have h1:=CG (nt L i).e (Qy (nt L i).l1 (nt L i).l2 how) (Qy ((nt L i).l1- (nt L i).one) ((nt L i).l2- (nt L i).two) how)
  rw [GD Om,jif]
  omega
theorem jbb {E1 E2:List Leg} {how:Int} (hE:TwoE E1 E2) (f1:Fine E1) (f2:Fine E2) (hP:x6 (E1++E2)) :GC (Uh (VN E1 E2)) how (VN E1 E2).length=vn E1 E2 how:=by
 have hkl: (KI (E1++E2)).length= (VN E1 E2).length:=by rw [←Bg,jit]
 have key:∀i,i≤(VN E1 E2).length→GC (Uh (VN E1 E2)) how i=xe E1 E2 how (KI (E1++E2)) i:=by
  intro i
  induction i with
  | zero=>intro _;rfl
  | succ i ih=>
   intro hi
   have hik:i< (KI (E1++E2)).length:=by omega
   have hnt:=CO (l:=VN E1 E2) (k:=i) Om
   have hlg:lg (KI (E1++E2)) i= (nt (VN E1 E2) i).e:=by
    rw [←Bg]
    have hi':i< (VN E1 E2).length:=by omega
    simp [lg,nt,List.getD,hi']
   obtain ⟨hkey,e0,he0,hp⟩ :=ZB hE.ok hE.ne (p:=lg (KI (E1++E2)) i) (by rw [←Uz hik];exact jis hik)
   have hc1:I7 E1 (nt (VN E1 E2) i).e:=by rw [←hlg,hp];exact ML (fun e he=>jjc _ he) hE.ne hP he0
   have hc2:I7 E2 (nt (VN E1 E2) i).e:=by rw [←hlg,hp];exact ML (fun e he=>jjH _ he) hE.ne hP he0
   have k1:Key E1 (nt (VN E1 E2) i).e:=by rw [←hlg];exact⟨hkey.ok,hkey.ne,hkey.ord⟩
   have k2:Key E2 (nt (VN E1 E2) i).e:=by rw [←hlg];exact⟨hkey.ok,hkey.ne,hkey.ord⟩
   have n1:=jbI (IS E1 E2) (jhd E1 E2) f1 (k:=i) Om hc1 k1
   have n2:=jbI (IS E1 E2) (jhe E1 E2) f2 (k:=i) Om hc2 k2
   rw [GD (by rw [Tm];omega),GB hik,ih Om,hnt,hlg,n1,n2]
   simp only [sdN,VP,jjg,if_false,if_true]
   rw [show QE false (VN E1 E2) i (VN E1 E2).length+ (nt (VN E1 E2) i).one- (nt (VN E1 E2) i).one=QE false (VN E1 E2) i (VN E1 E2).length by omega,
    show QE true (VN E1 E2) i (VN E1 E2).length+ (nt (VN E1 E2) i).two- (nt (VN E1 E2) i).two=QE true (VN E1 E2) i (VN E1 E2).length by omega]
 rw [key _ (jih _),vn,hkl]
theorem jfF (E1 E2:List Leg) : (VN E1 E2).length≤E1.length+E2.length:=by
 have h1:=ue (s:=true) E2 (Qd false E1 [])
 have h2:=ue (s:=false) E1 []
 rw [VN]
 simp only [jiH] at h2
 omega
theorem jhS (E1 E2:List Leg) (t:Bool) :aS t (VN E1 E2)≤E1.length+E2.length:=by
 have h1:=zp (s:=true) (t:=t) E2 (Qd false E1 [])
 have h2:=zp (s:=false) (t:=t) E1 []
 rw [jaO] at h2
 rw [VN]
 split at h1<;>split at h2<;>omega
theorem BP (NL:List Nt) (x:Option Addr×Nat) (how:Int) (w:World) (hr: (JY 0 212 8 NL.length ((Uh NL).flatMap qq) x).P w) (hl:NL.length≤4096) (ha:∀t,aS t NL≤16384) :
  Calls Tryz.prog 141 #[.slice x.1 NL.length x.2, .int .i64 how] w fun e w'=>∃v,e= .returned v∧w'.ownsRow w.heap.size 120 4 v (GC (Uh NL) how NL.length).length ((GC (Uh NL) how NL.length).flatMap jZ)∧Over w w':=by
 have hsl:=Tm NL
 refine Jh (m:=84) (Tryz.func141) J J (lb J) ?_;refine S7 ?_;refine Jx J J (zb) J (lb J) (fun b1=> ?_);refine WF 0 4 J J ?_;refine N8 ?_;refine JQ (X:=Nat×Option Addr×Nat) (fun y=>y.1≤NL.length) (fun y=>NL.length- y.1) (fun y=> [(5, .slice y.2.1 (GC (Uh NL) how y.1).length y.2.2),(6, .int .i64 (y.1:Int))]) (kK [0,1,4]) (fun y=> [JY (Bs.N ⟨w,[]⟩) 120 4 (GC (Uh NL) how y.1).length ((GC (Uh NL) how y.1).flatMap jZ) y.2]) (0,some ⟨b1,0,none⟩,0) (jii _) ⟨J,sz⟩ (fun _ h=>h) ?_
 intro⟨i,rA,rc⟩ hi L hL1
 refine v9 ?_;refine r9 ?_
 have hi:i≤NL.length:=hi
 have hbl:=Rx (L:=Uh NL) (how:=how) i Om
 refine S8 ?_;refine cZ (fun c1=> ?_) (fun c1=> ?_)
 ·have hlt:i<NL.length:=Om
  have hlS:i< (Uh NL).length:=Om
  have hst:=GD (how:=how) hlS
  have hnt:=CO hlt
  have hd1:=yC (s:=false) (k:=i) (jih NL.length)
  have hd2:=yC (s:=true) (k:=i) (jih NL.length)
  have hc1:=xj (s:=false) hlt
  have hc2:=xj (s:=true) hlt
  have ha1:=ha false
  have ha2:=ha true
  simp only [VP,if_true,jjg,if_false] at hc1 hc2
  have e1: (sdN NL i).l1=QE false NL i NL.length+ (nt NL i).one:=rfl
  have e2: (sdN NL i).l2=QE true NL i NL.length+ (nt NL i).two:=rfl
  obtain ⟨X,hX⟩ :∃X,X=nt (Uh NL) i:=⟨_,rfl⟩
  have hb1: -40000≤X.l1∧X.l1≤40000:= (by rw [hX,hnt,e1];omega)
  have hb2: -40000≤X.l2∧X.l2≤40000:= (by rw [hX,hnt,e2];omega)
  have hb3: -20000≤X.one∧X.one≤20000:= (by rw [hX,hnt];show-20000≤(nt NL i).one∧(nt NL i).one≤20000;omega)
  have hb4: -20000≤X.two∧X.two≤20000:= (by rw [hX,hnt];show-20000≤(nt NL i).two∧(nt NL i).two≤20000;omega)
  rw [←hX] at hst
  refine S8 ?_;refine a9 (qQ (j:=i) (fun w hs=>ke hr hs.fin) J J J JH hlt) ?_;refine S4 ?_;refine JS 11 ?_;refine dK 0 ?_;refine dK 1 ?_;refine dK 2 ?_;refine dZ 3 J (jn J J jt (xJ (i:=6) (v:= .int .i64 X.l1) (fun w hs=>ke hr hs.fin) hlS Om (by rw [hX];rfl))) ?_;refine dK 4 ?_;refine dK 5 ?_;refine dK 6 ?_;refine dZ 7 J (jn J J jt (xJ (i:=7) (v:= .int .i64 X.l2) (fun w hs=>ke hr hs.fin) hlS Om (by rw [hX];rfl))) ?_;refine dK 8 ?_;refine dZ 9 J (jT U7 J J (fun w1 hs=>H7 X.l1 X.l2 how w1)) ?_;refine dK 10 ?_;refine JK Kr ?_;refine S3 ?_;refine JS 21 ?_;refine dK 0 ?_;refine dK 1 ?_;refine dK 2 ?_;refine dZ 3 J (jn J J jt (xJ (i:=6) (v:= .int .i64 X.l1) (fun w hs=>ke hr hs.fin) hlS Om (by rw [hX];rfl))) ?_;refine dK 4 ?_;refine dK 5 ?_;refine dK 6 ?_;refine dZ 7 J (jn J J jt (xJ (i:=4) (v:= .int .i64 X.one) (fun w hs=>ke hr hs.fin) hlS Om (by rw [hX];rfl))) ?_;refine dK 8 ?_;refine dK 9 ?_;refine dK 10 ?_;refine dK 11 ?_;refine dZ 12 J (jn J J jt (xJ (i:=7) (v:= .int .i64 X.l2) (fun w hs=>ke hr hs.fin) hlS Om (by rw [hX];rfl))) ?_;refine dK 13 ?_;refine dK 14 ?_;refine dK 15 ?_;refine dZ 16 J (jn J J jt (xJ (i:=5) (v:= .int .i64 X.two) (fun w hs=>ke hr hs.fin) hlS Om (by rw [hX];rfl))) ?_;refine dK 17 ?_;refine dK 18 ?_;refine dZ 19 J (jT U7 J J (fun w1 hs=>H7 (X.l1- X.one) (X.l2- X.two) how w1)) ?_;refine dK 20 ?_;refine JK Kr ?_
  obtain ⟨lf,hlf⟩ :∃lf,lf=Qy X.l1 X.l2 how:=⟨_,rfl⟩
  obtain ⟨rf,hrf⟩ :∃rf,rf=Qy (X.l1- X.one) (X.l2- X.two) how:=⟨_,rfl⟩
  rw [←hlf,←hrf] at hst
  rw [←hlf,←hrf]
  refine S2 ?_;refine qt [(50, .bool (lf&& !rf))] (kK [0,1,4,5,6,11,12,13,14,17,18,19,7,20,21,22,23,24,25,26,27,28,29,8,30,31,32,33,34,35,36,37,38,39,40,41,42,43,44,45,46,47,48,49,9]) (fun L h_8=> ?_) ?_
  ·refine S3 ?_;refine cV 52 (fun g1=> ?_) (fun g1=> ?_)
   ·refine S7 ?_
    exact Jk h_8 ⟨vb (by rw [g1,jix]),sz⟩ (u9 J)
   ·refine S5 ?_
    exact Jk h_8 ⟨vb (by rw [g1,jiC]),sz⟩ (u9 J)
  ·refine v9 ?_;refine cZ (fun c2=> ?_) (fun c2=> ?_)
   ·refine S5 ?_;refine a9 (jk J J KQ J (Z5 [.int .i64 X.e.ax, .int .i64 X.e.ay, .int .i64 X.e.bx, .int .i64 X.e.b_y] 0 (fun w hs=>ke hr hs.fin) hlS Om (by rw [hX];exact Me J J J J))) ?_;refine S1 ?_;refine Jx J J (Wm J) J (lb J) (fun b2=> ?_);refine N1 ?_;refine JV (k:=0) J Jm ku Dc J Dc J J J (fun w' hs=>Qb hs (k:=1) J J) (by simp [Value.oneCell']) (by unfold maxLen;omega) Om (jih _) (fun r1=> ?_);refine N10 ?_
    exact Ji hL1 ((i+1,r1)) ((show i+1≤NL.length by omega)) (by simp only;omega) ⟨(by rw [hst,zk,if_pos c2,jif];rfl),vi Om,sz⟩ (fun _ h=>h.upto ⟨by rw [hst,zk,if_pos c2,jif,jio];rfl,trivial⟩)
   ·refine qt [(63, .bool (rf&& !lf))] (kK [0,1,4,5,6,11,12,13,14,17,18,19,7,20,21,22,23,24,25,26,27,28,29,8,30,31,32,33,34,35,36,37,38,39,40,41,42,43,44,45,46,47,48,49,9,50]) (fun L h_10=> ?_) ?_
    ·refine S3 ?_;refine cV 65 (fun g2=> ?_) (fun g2=> ?_)
     ·refine S7 ?_
      exact Jk h_10 ⟨vb (by rw [g2,jix]),sz⟩ (u9 J)
     ·refine S5 ?_
      exact Jk h_10 ⟨vb (by rw [g2,jiC]),sz⟩ (u9 J)
    ·refine v9 ?_;refine cZ (fun c3=> ?_) (fun c3=> ?_)
     ·refine S1 ?_;refine JS 13 ?_;refine dK 0 ?_;refine dV 1 [2,3,4,5,11,12] ?_;refine dV 2 [3,4,5,11,12] ?_;refine dV 3 [4,5,11,12] ?_;refine dV 4 [5,11,12] ?_;refine d9 5 J [11,12] (u9 J) (jk J J jj J (Z5 [.int .i64 X.e.bx, .int .i64 X.e.b_y] 2 (fun w hs=>ke hr hs.fin) hlS Om (by rw [hX];exact xS J J))) ?_;refine dV 6 [7,8,9,10,11,12] ?_;refine dV 7 [8,9,10,11,12] ?_;refine dV 8 [9,10,11,12] ?_;refine dV 9 [10,11,12] ?_;refine d9 10 J [11,12] (u9 J) (jk J J jj J (Z5 [.int .i64 X.e.ax, .int .i64 X.e.ay] 0 (fun w hs=>ke hr hs.fin) hlS Om (by rw [hX];exact xS J J))) ?_;refine d9 11 J [12] (u9 J) (JU J J (uC J J)) ?_;refine qe (i:=12) J Dc Kr J ?_;refine Jx J J (Wm J) J (lb J) (fun b3=> ?_);refine n9 ?_;refine JO (u9 J) ?_;refine vg J Kr J ?_;refine JV (k:=0) J Jm ku Dc J Dc J J J (fun w' hs=>Qb hs (k:=1) J J) (by simp [Value.oneCell']) (by unfold maxLen;omega) Om (jih _) (fun r2=> ?_);refine n9 ?_;refine JS 15 ?_;refine dK 14 ?_;refine JK Kr ?_;refine S8 ?_
      exact Ji hL1 ((i+1,r2)) ((show i+1≤NL.length by omega)) (by simp only;omega) ⟨(by rw [hst,zk,if_neg (by rw [c2];simp),if_pos c3,jif];rfl),vi Om,sz⟩ (fun _ h=>h.upto ⟨by rw [hst,zk,if_neg (by rw [c2];simp),if_pos c3,jif,jio];rfl,trivial⟩)
     ·refine S9 ?_
      exact Ji hL1 ((i+1,rA,rc)) ((show i+1≤NL.length by omega)) (by simp only;omega) ⟨(by rw [hst,zk,if_neg (by rw [c2];simp),if_neg (by rw [c3];simp),jiG];rfl),vi Om,sz⟩ (fun _ h=>h.upto ⟨by rw [hst,zk,if_neg (by rw [c2];simp),if_neg (by rw [c3];simp),jiG],trivial⟩)
 ·have hik:i=NL.length:=Om
  rw [hik]
  refine S11 ?_;refine jM J (.tmp J) ?_
  intro w' hs
  have hr2:=hs.all 0 _ rfl
  exact⟨_,rfl,vv hr2.1 (fun b hb=> (hr2.2.1 b hb).elim id (fun h=>by cases h)),hs.fin⟩
end Go.Proofs.YtpncbbcmoiiipaaGreat
namespace Go.Proofs.YtpncbbcmoiiipaaGreat
open Go Go.RowKit
theorem jcM {es:List (Pn×Pn)} {z:Pn} (h1:Lk es z) (h2:∀e,es.head?=some e→e.1=z) :KK (es.map (·.1)) =es:=by
 obtain ⟨g1,g2⟩ :=jca h1
 have hp:∀j (hj:j<es.length),pt (es.map (·.1)) j=es[j].1:=fun j hj=>by
  rw [←Kk (by simpa using hj)]
  simp
 refine jjz (by simp [KK]) fun j hj hj'=> ?_
 simp only [KK,jjs,jjU]
 refine Prod.ext (hp j hj') ?_
 show pt (es.map (·.1)) (nx (es.map (·.1)) j) =_
 by_cases hj1:j+1<es.length
 ·rw [show nx (es.map (·.1)) j=j+1 from jjx (by simpa using hj1),hp _ hj1,←g1 j hj1]
 ·have hk:0<es.length:=by omega
  rw [show nx (es.map (·.1)) j=0 by unfold nx;rw [jit,show j+1=es.length by omega,Nat.mod_self],hp 0 hk]
  have hz: (es[0]'hk).1=z:=h2 _ (by cases es with | nil=>simp at hk | cons a l=>rfl)
  have:es.length- 1=j:=by omega
  rw [hz,←g2 hk]
  simp only [this]
theorem xr {xs:List Pn} (h0:0<xs.length) (hk:0< (Q3 xs).length) :J0 (Q3 xs) =J0 xs:=by
 obtain ⟨h1,h2⟩ :=Dw h0
 have e:Q3 xs= ((J0 xs).map Nn).map (·.1) :=by rw [List.map_map];rfl
 rw [kz (ZA h0 hk),e,jcM h1 h2,List.map_map]
 conv=>rhs;rw [←List.map_id (J0 xs)]
 rfl
theorem Df (rs ss:List jV) :∀k,k≤rs.length→qJ (rs++ss) k=qJ rs k
 | 0,_=>rfl
 | k+1,hk=>by
  show qJ (rs++ss) k++J0 (rg (rs++ss) k) =qJ rs k++J0 (rg rs k)
  rw [Df rs ss k Om]
  congr 2
  simp only [rg,List.getD_eq_getElem?_getD,List.getElem?_append_left (show k<rs.length by omega)]
theorem MD (rs ss:List jV) :∀k,qJ (rs++ss) (rs.length+k) =jE rs++qJ ss k
 | 0=>by
  rw [jj2,Df rs ss _ (jih _)]
  exact(jiG _).symm
 | k+1=>by
  show qJ (rs++ss) (rs.length+k) ++J0 (rg (rs++ss) (rs.length+k)) =jE rs++ (qJ ss k++J0 (rg ss k))
  rw [MD rs ss k,jil]
  congr 3
  simp only [rg,List.getD_eq_getElem?_getD,List.getElem?_append_right (Nat.le_add_right _ _),Nat.add_sub_cancel_left]
theorem Um (rs ss:List jV) :jE (rs++ss) =jE rs++jE ss:=by
 unfold jE
 rw [jif]
 exact MD rs ss _
theorem Xl (r:jV) :jE [r] =J0 r:=rfl
theorem x7 {rs:List jV} (hr:JE rs=true) :∀k,k≤rs.length→jE (vf rs k) =qJ rs k
 | 0,_=>rfl
 | k+1,hk=>by
  have ih:=x7 hr k Om
  have hp:=Qf (Km hr (show k<rs.length by omega))
  show _=qJ rs k++J0 (rg rs k)
  by_cases h:0< (Q3 (rg rs k)).length
  ·rw [Yk Om h,Um,ih,Xl,xr hp.1 h]
  ·rw [Zs Om h,ih]
   have e: (J0 (rg rs k)).length= (Q3 (rg rs k)).length:= (jit ..).symm
   rw [jiQ (show(J0 (rg rs k)).length=0 by omega),jiG]
theorem vp {rs:List jV} (hr:JE rs=true) :jE (J8 rs) =jE rs:=x7 hr _ (jih _)
theorem jbS {E:List Leg} (hE:∀l∈E,qN l) (hl:E.length≤400) {ss:List jV} (hr:JE ss=true) (hb:∀r∈ss,bare r) (hs:∀l∈jE ss,l∈E) :HotOk (Nb E) ss:=by
 have hends:∀l∈E,lA l∈Nb E:=fun l hl=>by
  obtain ⟨k,hk,e⟩ :=ji0 hl
  have:= (M0 (E:=E) _ (jih _) k hk).1
  rw [xx hk,e] at this
  exact(Wi _ _).2 this
 refine⟨hr,fun p hp=>yh (PM hE _ (jih _) p ((Wi _ _).1 hp)),UO _,Eg (UO _),?_,fun r h=>⟨hb r h,fun p hp=> ?_⟩⟩
 ·have h1:=xI (U0 E E.length)
  have h2:=Zz E E.length
  have h3:E.length* (E.length+2)≤400*402:=jp0 hl Om
  unfold Nb
  omega
 ·have hbr:=hb r h
  have hp2:p∈(J0 r).map lA:=by
   rw [kz hbr,List.map_map]
   have e2: (KK r).map (lA∘mkL) = (KK r).map (·.1) :=rfl
   rw [e2,Wu]
   exact hp
  obtain ⟨l,hl,rfl⟩ :=jip.1 hp2
  exact hends l (hs l (Yw.2 ⟨r,h,hl⟩))
structure CmOk (rs ss:List jV) :Prop where
 r1:JE rs=true
 r2:JE ss=true
 len: (jE rs++jE ss).length≤400
def Dn (rs ss:List jV) :List Leg:=jE rs++jE ss
def wQ (rs ss:List jV) :List Pn:=Nb (Dn rs ss)
def uh (rs ss:List jV) :List jV:=IK (wQ rs ss) (J8 rs)
def Wn (rs ss:List jV) :List jV:=IK (wQ rs ss) (J8 ss)
def VA (rs ss:List jV) :Bool:=L6 (wQ rs ss) (J8 rs)
def WO (rs ss:List jV) :Bool:=L6 (wQ rs ss) (J8 ss)
def QG (rs ss:List jV) (how:Int) :List Leg:=vn (jE (uh rs ss)) (jE (Wn rs ss)) how
def vo (rs ss:List jV) (how:Int) :List jV:=KG (QG rs ss how)
section
variable {rs ss:List jV}
theorem CmOk.legs (h:CmOk rs ss) :∀l∈Dn rs ss,qN l:=fun l hl=> (jiv.1 hl).elim (OP h.r1 l) (OP h.r2 l)
theorem CmOk.hot1 (h:CmOk rs ss) :HotOk (wQ rs ss) (J8 rs) :=jbS h.legs h.len (Yj h.r1) (zx h.r1) fun l hl=>jjc _ (by rwa [vp h.r1] at hl)
theorem CmOk.hot2 (h:CmOk rs ss) :HotOk (wQ rs ss) (J8 ss) :=jbS h.legs h.len (Yj h.r2) (zx h.r2) fun l hl=>jjH _ (by rwa [vp h.r2] at hl)
theorem Zl {hot:List Pn} {rs:List jV} (hk:HotOk hot rs) (h:L6 hot rs=true) :JE (IK hot rs) =true∧qR hot (IK hot rs) =IK hot rs∧∃n,IK hot rs=I2 hot n rs:=by
 cases hs:zn hot rs with
 | none=>rw [(IL hs).2.2] at h;cases h
 | some x=>
  obtain ⟨s,r⟩ :=x
  rw [(wW hs).1]
  exact⟨jdw hk.nd hk.reg hk.bare hs,CW _ hs⟩
theorem CmOk.pair (h:CmOk rs ss) (ha:VA rs ss=true) (hb:WO rs ss=true) :x6 (jE (uh rs ss) ++jE (Wn rs ss)) :=by
 have k1:=h.hot1
 have k2:=h.hot2
 obtain ⟨_,f1,n1,i1⟩ :=Zl k1 ha
 obtain ⟨_,f2,n2,i2⟩ :=Zl k2 hb
 have e1:I2 (wQ rs ss) (n1+n2) (J8 rs) =uh rs ss:=by rw [FR,←i1,Fq9 f1];rfl
 have e2:I2 (wQ rs ss) (n1+n2) (J8 ss) =Wn rs ss:=by rw [Nat.add_comm,FR,←i2,Fq9 f2];rfl
 have e:I2 (wQ rs ss) (n1+n2) (J8 rs++J8 ss) =uh rs ss++Wn rs ss:=by rw [PR,e1,e2]
 have hb0:bareG (wQ rs ss) (J8 rs++J8 ss) :=fun r hr=> (jiv.1 hr).elim (k1.bare r) (k2.bare r)
 have he0:jE (J8 rs++J8 ss) =Dn rs ss:=by rw [Um,vp h.r1,vp h.r2];rfl
 have hi:=PS k1.nd (n1+n2) _ hb0 (by rw [he0];exact EH fun p hp=> (Wi _ _).2 hp)
 rw [e] at hi
 have hfix:qR (wQ rs ss) (uh rs ss++Wn rs ss) =uh rs ss++Wn rs ss:=by
  unfold qR at*
  rw [jiO]
  have a: (uh rs ss).map (kU (wQ rs ss)) =uh rs ss:=f1
  have b: (Wn rs ss).map (kU (wQ rs ss)) =Wn rs ss:=f2
  rw [a,b]
 have hx:=Sb k1.nd hi.1 hi.2
 rw [hfix] at hx
 intro x hx1 y hy1
 rw [←Um] at hx1 hy1
 exact jaC hi.1 hfix hx (fun p hp=>Yy (k1.ok p hp)) hx1 hy1
theorem CmOk.two (h:CmOk rs ss) (ha:VA rs ss=true) (hb:WO rs ss=true) :TwoE (jE (uh rs ss)) (jE (Wn rs ss)) :=by
 obtain ⟨r1,_⟩ :=Zl h.hot1 ha
 obtain ⟨r2,_⟩ :=Zl h.hot2 hb
 have g1:=yJ r1
 have g2:=yJ r2
 exact⟨g1.ok,g2.ok,g1.ne,g2.ne,xK r1,xK r2⟩
theorem CmOk.okT (h:CmOk rs ss) (ha:VA rs ss=true) (hb:WO rs ss=true) (how:Int) :okRs (vo rs ss how) :=by
 have hB:BoOk (QG rs ss how) :=xg (h.two ha hb)
 have hl:=hB.len
 obtain ⟨h1,h2⟩ :=y7 (B:=QG rs ss how) _ (jih _)
 refine⟨by unfold vo KG;omega,fun r hr=> ?_⟩
 obtain ⟨g1,g2,g3⟩ :=h2 r hr
 refine⟨g1,by omega,fun p hp=> ?_⟩
 obtain ⟨j,hj,rfl⟩ :=g3 p hp
 exact(VG (QS hB.ok hj)).wide
end
def HY (how:Int) :Bool:=decide (1≤how) &&decide (how≤4)
def xh (rs ss:List jV) :Bool:=JE rs&&JE ss
def VE (rs ss:List jV) :Bool:=decide ((jE rs++jE ss).length≤400) && (VA rs ss&&WO rs ss)
def LJ (rs ss:List jV) (how:Int) :List jV:=if VE rs ss=true then GL (KX (vo rs ss how)) else []
def FE (rs ss:List jV) (how:Int) :Int:=if VE rs ss=true then LM (KX (vo rs ss how)) else 5
def uU (rs ss:List jV) (how:Int) :List jV:=if xh rs ss=true then(if HY how=true then LJ rs ss how else []) else []
def Gz (rs ss:List jV) (how:Int) :Int:=if xh rs ss=true then(if HY how=true then FE rs ss how else 2) else 1
theorem Ev (rs ss:List jV) (how:Int) :smallR (LJ rs ss how) :=by
 unfold LJ
 split
 ·exact T7 _
 ·exact smallR.nil
theorem Et (rs ss:List jV) (how:Int) :smallR (uU rs ss how) :=by
 unfold uU
 split
 ·split
  ·exact Ev ..
  ·exact smallR.nil
 ·exact smallR.nil
end Go.Proofs.YtpncbbcmoiiipaaGreat
