import Derived.Test.YtbahojdbmmjkcaaGreatSBrd
import Derived.Test.YtbahojdbmmjkcaaGreatSSnapG
import Derived.Test.YtbahojdbmmjkcaaGreatSTrI
import Derived.Test.YtbahojdbmmjkcaaGreatSPen
import Derived.Test.YtbahojdbmmjkcaaGreatSNetT
set_option linter.unusedVariables false
set_option linter.unusedSimpArgs false
namespace Go.Proofs.YtbahojdbmmjkcaaGreat
open Go Go.RowKit
variable {E1 E2 es:List Leg} {how:Int}
set_option maxRecDepth 100000
set_option maxHeartbeats 4000000
theorem jeS {o p q:Pn} (hp:p≠o) (hq:q≠o) (h:uN o p q) :UZ o q p=true∨UZ o p q=true:=by
 obtain ⟨ht,hd⟩ :=h
 have ht':tn o q p=0:=by rw [Md];omega
 by_cases h1:UZ o q p=true
 ·exact .inl h1
 by_cases h2:UZ o p q=true
 ·exact .inr h2
 exfalso
 obtain ⟨m,n,hm,hn,e1,e2⟩ :=GX (Ne.symm hq) ht' h1
 obtain ⟨m',n',hm',hn',e1',e2'⟩ :=GX (Ne.symm hp) ht h2
 have hne:p.1- o.1≠0∨p.2- o.2≠0:=by
  by_cases k:p.1- o.1=0
  ·exact .inr fun k2=>hp (Prod.ext Om Om)
  ·exact .inl k
 have hne':q.1- o.1≠0∨q.2- o.2≠0:=by
  by_cases k:q.1- o.1=0
  ·exact .inr fun k2=>hq (Prod.ext Om Om)
  ·exact .inl k
 have hP:0< (p.1- o.1) * (p.1- o.1) + (p.2- o.2) * (p.2- o.2) :=by
  have s1:=kY (a:=p.1- o.1) (b:=p.1- o.1) rfl
  have s2:=kY (a:=p.2- o.2) (b:=p.2- o.2) rfl
  omega
 have hQ:0< (q.1- o.1) * (q.1- o.1) + (q.2- o.2) * (q.2- o.2) :=by
  have s1:=kY (a:=q.1- o.1) (b:=q.1- o.1) rfl
  have s2:=kY (a:=q.2- o.2) (b:=q.2- o.2) rfl
  omega
 have f1:n* (q.1- o.1) = (n- m) * (p.1- o.1) :=by
  have:n* (q.1- o.1) =n* (q.1- p.1) +n* (p.1- o.1) :=by grind
  rw [this,←e1];grind
 have f2:n* (q.2- o.2) = (n- m) * (p.2- o.2) :=by
  have:n* (q.2- o.2) =n* (q.2- p.2) +n* (p.2- o.2) :=by grind
  rw [this,←e2];grind
 have f1':n'* (p.1- o.1) = (n'- m') * (q.1- o.1) :=by
  have:n'* (p.1- o.1) =n'* (p.1- q.1) +n'* (q.1- o.1) :=by grind
  rw [this,←e1'];grind
 have f2':n'* (p.2- o.2) = (n'- m') * (q.2- o.2) :=by
  have:n'* (p.2- o.2) =n'* (p.2- q.2) +n'* (q.2- o.2) :=by grind
  rw [this,←e2'];grind
 generalize p.1- o.1=p1 at*
 generalize p.2- o.2=p2 at*
 generalize q.1- o.1=q1 at*
 generalize q.2- o.2=q2 at*
 have g1:n* (q1*q1+q2*q2) = (n- m) * (p1*q1+p2*q2) :=by
  have:n* (q1*q1+q2*q2) =q1* (n*q1) +q2* (n*q2) :=by grind
  rw [this,f1,f2];grind
 have g2:n'* (p1*p1+p2*p2) = (n'- m') * (p1*q1+p2*q2) :=by
  have:n'* (p1*p1+p2*p2) =p1* (n'*p1) +p2* (n'*p2) :=by grind
  rw [this,f1',f2'];grind
 have k1:=ji5 hn hQ
 have k2:=ji5 hn' hP
 have s1:=kY (a:=n- m) (b:=p1*q1+p2*q2) rfl
 have s2:=kY (a:=n'- m') (b:=p1*q1+p2*q2) rfl
 have a1:0<n- m:=by omega
 have a2:0<n'- m':=by omega
 have g3:n*n'* (p1*p1+p2*p2) = (n- m) * (n'- m') * (p1*p1+p2*p2) :=by
  have x1:n*n'* (p1*p1+p2*p2) =p1* (n* (n'*p1)) +p2* (n* (n'*p2)) :=by grind
  rw [x1,f1',f2']
  have x2:p1* (n* ((n'- m') *q1)) +p2* (n* ((n'- m') *q2)) = (n'- m') * (p1* (n*q1) +p2* (n*q2)) :=by grind
  rw [x2,f1,f2]
  grind
 have b1: (n- m) * (n'- m')≤(n- m) *n':=jiO Om Om
 have b2: (n- m) *n'<n*n':=jiQ Om hn'
 have b3:=jiQ (show(n- m) * (n'- m') <n*n' by omega) hP
 omega
theorem CK {a b c d o p q:Pn} (h:XK a b c d=true) (h1: (a=o∧b=p)∨(a=p∧b=o)) (h2: (c=o∧d=q)∨(c=q∧d=o)) (hp:p≠o) (hq:q≠o) (hs:uN o p q) :p=q:=Decidable.byContradiction fun hpq=>by
 have ona:∀x,UZ o p x=true→UZ a b x=true:=fun x hx=>by
  rcases h1 with⟨rfl,rfl⟩ |⟨rfl,rfl⟩
  ·exact hx
  ·rw [Tm];exact hx
 have onc:∀x,UZ o q x=true→UZ c d x=true:=fun x hx=>by
  rcases h2 with⟨rfl,rfl⟩ |⟨rfl,rfl⟩
  ·exact hx
  ·rw [Tm];exact hx
 have mem:∀x,x=o∨x=p∨x=q→UZ o p x=true→UZ o q x=true→x∈ky a b c d:=fun x h0 k1 k2=>kL.2 ⟨by
  rcases h1 with⟨rfl,rfl⟩ |⟨rfl,rfl⟩ <;>rcases h2 with⟨rfl,rfl⟩ |⟨rfl,rfl⟩ <;>rcases h0 with rfl | rfl | rfl<;>simp,by
  unfold KS
  rw [ona x k1,onc x k2]
  rfl⟩
 have ho:=mem o (.inl rfl) (XH o p) (XH o q)
 have h3:kz a b c d=3:=by
  rcases jeS hp hq hs with k | k
  ·exact GD ho (mem p (.inr (.inl rfl)) (L3 o p) k) (Ne.symm hp)
  ·exact GD ho (mem q (.inr (.inr rfl)) k (L3 o q)) (Ne.symm hq)
 have hap:WQ a b c d=false:=by
  rw [WQ]
  simp only [Bool.or_eq_false_iff,decide_eq_false_iff_not]
  rcases h1 with⟨rfl,rfl⟩ |⟨rfl,rfl⟩ <;>rcases h2 with⟨rfl,rfl⟩ |⟨rfl,rfl⟩ <;>omega
 unfold XK at h
 rw [hap,h3] at h
 simp only [jjb,if_false,show¬((3:Int) =2) by omega,show¬((3:Int) =1) by omega,if_true,decide_eq_true_eq] at h
 rcases h1 with⟨rfl,rfl⟩ |⟨rfl,rfl⟩ <;>rcases h2 with⟨rfl,rfl⟩ |⟨rfl,rfl⟩ <;>rcases h with⟨k1,k2⟩ |⟨k1,k2⟩ <;>first | exact hpq k1 | exact hpq k2 | exact hpq k1.symm | exact hpq k2.symm | exact hp k1 | exact hp k2 | exact hq k1 | exact hq k2 | exact hp k1.symm | exact hq k2.symm | exact hp k2.symm | exact hq k1.symm
def PV (E:List Leg) :Prop:=∀e∈E,∀f∈E,XK (lA e) (lB e) (lA f) (lB f) =true
theorem jfh {p l:Leg} {a b:Bool} (h:l∈BL p a b) :l=p∨l=vW p:=by
 unfold BL at h
 split at h
 ·exact .inl (jin.1 h)
 ·split at h
  ·exact .inr (jin.1 h)
  ·cases h
theorem jeD {p:Leg} (h:Key es p) :KR p=p∧KR (vW p) =p:=by
 have h1:KR p=p:=by unfold KR;rw [if_neg h.ord]
 exact⟨h1,by rw [IM h.ne,h1]⟩
theorem FV (hE:TwoE E1 E2) {l:Leg} (h:l∈vD E1 E2 how) :∃e∈E1++E2,(l=e∨l=vW e) :=by
 unfold vD xU at h
 rw [jiM] at h
 obtain ⟨p,hp,hl⟩ :=jjI.1 h
 obtain ⟨_,e,he,h2⟩ :=Xf hE.ok hE.ne hp
 refine⟨e,he,?_⟩
 have hn:p=e∨p=vW e:=by rw [h2];unfold KR;split<;>simp
 rcases jfh hl with rfl | rfl<;>rcases hn with rfl | rfl
 ·exact .inl rfl
 ·exact .inr rfl
 ·exact .inr rfl
 ·exact .inl (Fp e)
theorem NP (es:List Leg) : (VQ es).Nodup:=by
 have ha:Ge (Qj false es []) :=WN List.Pairwise.nil
 rw [VQ]
 exact List.Pairwise.imp (fun {a b} (h:ZT a b) (e:a=b) =>K8 a (by rw [←e] at h;exact h)) (List.pairwise_map.2 ha)
theorem ER (hE:TwoE E1 E2) : ((vD E1 E2 how).map KR).Nodup:=by
 have key:∀ks:List Leg,(∀p∈ks,Key (E1++E2) p)→((ks.flatMap fun p=>BL p (VE (xL E1 p).left (xL E2 p).left how) (VE (xL E1 p).right (xL E2 p).right how)).map KR).Sublist ks:=by
  intro ks
  induction ks with
  | nil=>intro _;exact List.Sublist.slnil
  | cons p ks ih=>
   intro hk
   rw [jiA,jiG]
   have h1:=jeD (hk p (jiH ..))
   have h2:=ih fun q hq=>hk q (jiz _ hq)
   unfold BL
   split
   ·simp only [jiv,jiF,h1.1,jiI,jiV]
    exact h2.cons_cons p
   ·split
    ·simp only [jiv,jiF,h1.2,jiI,jiV]
     exact h2.cons_cons p
    ·exact h2.cons p
 unfold vD xU
 rw [jiM]
 exact(NP _).sublist (key _ fun p hp=> (Xf hE.ok hE.ne hp).1)
theorem Z6 (hE:TwoE E1 E2) :BoOk (vD E1 E2 how) :=by
 refine⟨fun l hl=> ?_,?_⟩
 ·obtain ⟨e,he,h | h⟩ :=FV hE hl
  ·rw [h];exact hE.ok e he
  ·rw [h]
   have:=hE.ok e he
   exact⟨this.2.2.1,this.2.2.2,this.1,this.2.1⟩
 ·have h1:=Mx (E1:=E1) (E2:=E2) (how:=how) (ks:=VQ (E1++E2)) _ (jif _)
  have h2:=SO (es:=E1++E2)
  have h3:=hE.lnE
  have h4:=hE.lnF
  rw [jid] at h2
  unfold vD
  omega
theorem My (hE:TwoE E1 E2) (hP:PV (E1++E2)) :TrOk (vD E1 E2 how) :=by
 have hnd:=ER (how:=how) hE
 have hin:∀i,i< (vD E1 E2 how).length→lg (vD E1 E2 how) i∈vD E1 E2 how:=fun i hi=>by rw [←Uf hi];exact jir hi
 have hne:∀i,i< (vD E1 E2 how).length→lA (lg (vD E1 E2 how) i)≠lB (lg (vD E1 E2 how) i) :=fun i hi=>by
  obtain ⟨e,he,h | h⟩ :=FV hE (hin i hi)
  ·rw [h];exact hE.ne e he
  ·rw [h];exact fun k=>hE.ne e he k.symm
 have inj:∀i j,i< (vD E1 E2 how).length→j< (vD E1 E2 how).length→KR (lg (vD E1 E2 how) i) =KR (lg (vD E1 E2 how) j)→i=j:=fun i j hi hj h=>by
  have h1: ((vD E1 E2 how).map KR)[i]'(by simpa using hi) = ((vD E1 E2 how).map KR)[j]'(by simpa using hj) :=by
   rw [jje,jje,Uf hi,Uf hj];exact h
  exact(List.getElem_inj hnd).1 h1
 have ends:∀i,i< (vD E1 E2 how).length→∃e∈E1++E2,(lA e=lA (lg (vD E1 E2 how) i)∧lB e=lB (lg (vD E1 E2 how) i))∨(lA e=lB (lg (vD E1 E2 how) i)∧lB e=lA (lg (vD E1 E2 how) i)) :=fun i hi=>by
  obtain ⟨e,he,h | h⟩ :=FV hE (hin i hi)
  ·exact⟨e,he, .inl ⟨by rw [h],by rw [h]⟩⟩
  ·exact⟨e,he, .inr ⟨by rw [h];rfl,by rw [h];rfl⟩⟩
 refine⟨hne,fun i j hi hj hij hv hs=> ?_,fun i j hi hj hv hs=> ?_⟩
 ·obtain ⟨e,he,k1⟩ :=ends i hi
  obtain ⟨f,hf,k2⟩ :=ends j hj
  have:=CK (hP e he f hf) (o:=lA (lg (vD E1 E2 how) i)) (p:=lB (lg (vD E1 E2 how) i)) (q:=lB (lg (vD E1 E2 how) j)) k1 (by rw [hv];exact k2) (Ne.symm (hne i hi)) (by rw [hv];exact Ne.symm (hne j hj)) hs
  exact hij (inj i j hi hj (by rw [Xi hv this]))
 ·obtain ⟨e,he,k1⟩ :=ends j hj
  obtain ⟨f,hf,k2⟩ :=ends i hi
  have:=CK (hP e he f hf) (o:=lB (lg (vD E1 E2 how) i)) (p:=lB (lg (vD E1 E2 how) j)) (q:=lA (lg (vD E1 E2 how) i)) (by rw [←hv];exact k1) (k2.symm) (by rw [←hv];exact Ne.symm (hne j hj)) (hne i hi) hs
  have hr:lg (vD E1 E2 how) j=vW (lg (vD E1 E2 how) i) :=Xi hv this
  have:=inj j i hj hi (by rw [hr,IM (hne i hi)])
  subst this
  exact hne j hj (by rw [hv])
def Vk (E1 E2:List Leg) :List Nt:=Qj true E2 (Qj false E1 [])
theorem Rk (E1 E2:List Leg) :Ge (Vk E1 E2) :=WN (WN List.Pairwise.nil)
theorem Bv (E1 E2:List Leg) : (Vk E1 E2).map (·.e) =VQ (E1++E2) :=by
 have h2:Ge (Qj false (E1++E2) []) :=WN List.Pairwise.nil
 refine Ms (List.pairwise_map.2 (Rk E1 E2)) (List.pairwise_map.2 h2) fun q=> ?_
 simp only [VQ,jiD]
 rw [show(∃a,a∈Vk E1 E2∧a.e=q)↔_ from WP,show(∃a,a∈Qj false (E1++E2) []∧a.e=q)↔_ from WP,WP]
 simp only [ji3,false_and,exists_false,false_or,jit]
 constructor
 ·rintro(⟨e,h1,h2⟩ |⟨e,h1,h2⟩)
  ·exact⟨e, .inl h1,h2⟩
  ·exact⟨e, .inr h1,h2⟩
 ·rintro⟨e,h1 | h1,h2⟩
  ·exact .inl ⟨e,h1,h2⟩
  ·exact .inr ⟨e,h1,h2⟩
theorem jhd (E1 E2:List Leg) (F:Leg→Int) :wS false F (Vk E1 E2) =sm (fun e=>sg e*F (KR e)) E1:=by
 rw [Vk,YT,YT]
 simp [wS,sm]
theorem jhe (E1 E2:List Leg) (F:Leg→Int) :wS true F (Vk E1 E2) =sm (fun e=>sg e*F (KR e)) E2:=by
 rw [Vk,YT,YT]
 simp [wS,sm]
theorem MB {E:List Leg} (hsub:∀e∈es,e∈E) (hne:∀l∈E,lA l≠lB l) (hP:PV E) {e0:Leg} (he0:e0∈E) :Rz es (KR e0) :=by
 intro hl e he hn
 have he:=hsub e he
 have hne1:=hne e he
 have hne0:=hne e0 he0
 obtain ⟨m1,m2,m3⟩ :=jeL e0
 have hn':¬((lA e0=lA e∧lB e0=lB e)∨(lA e0=lB e∧lB e0=lA e)) :=by
  rintro(⟨h1,h2⟩ |⟨h1,h2⟩)
  ·exact hn (by rw [Xi h1 h2])
  ·have:e=vW e0:=Xi (by rw [←h2];rfl) (by rw [←h1];rfl)
   exact hn (by rw [this,IM hne0])
 have hl0:e0.ay=e0.b_y:=m3.1 hl
 have:=jeM (a:=lA e0) (b:=lB e0) (c:=lA e) (d:=lB e) hl0 (fun h=>hne0 (Prod.ext h hl0)) hne1 hn' (hP e0 he0 e he)
 rw [m1,m2]
 exact this
theorem jbU {s:Bool} {l:List Nt} (ha:Ge l) (hw:∀F:Leg→Int,wS s F l=sm (fun e=>sg e*F (KR e)) es) (hf:Fine es) {k:Nat} (hk:k<l.length) (hc:Rz es (nt l k).e) (hkey:Key es (nt l k).e) :
  xL es (nt l k).e=⟨(nt l k).e,Vm s (nt l k),QE s l k l.length+Vm s (nt l k),QE s l k l.length⟩ :=by
 have h1:Vm s (nt l k) =Xq es (nt l k).e:=by
  have:=jf3 (s:=s) ha (GF hk)
  rw [←this]
  generalize (nt l k).e=p
  rw [hw]
  exact yG fun e _=>by split<;>simp
 have h2:QE s l k l.length=IY es (nt l k).e:=by
  rw [EN ha hk]
  generalize (nt l k).e=p
  rw [hw]
  rfl
 rw [jdf hf hc hkey.ord hkey.ne,h1,h2]
def Gi (L:List Nt) (how:Int) (i:Nat) :List Leg:= (L.take i).flatMap fun x=>BL x.e (VE x.l1 x.l2 how) (VE (x.l1- x.one) (x.l2- x.two) how)
theorem Gj {L:List Nt} {i:Nat} (h:i<L.length) :Gi L how (i+1) =Gi L how i++BL (nt L i).e (VE (nt L i).l1 (nt L i).l2 how) (VE ((nt L i).l1- (nt L i).one) ((nt L i).l2- (nt L i).two) how) :=by
 rw [Gi,jik h,jii,YV h]
 simp [Gi]
theorem RU {L:List Nt} {how:Int} :∀i,i≤L.length→(Gi L how i).length≤i
 | 0,_=>by simp [Gi]
 | i+1,h=>by
  have:=RU (L:=L) (how:=how) i Om
  have h1:=Ec (nt L i).e (VE (nt L i).l1 (nt L i).l2 how) (VE ((nt L i).l1- (nt L i).one) ((nt L i).l2- (nt L i).two) how)
  rw [Gj Om,jid]
  omega
theorem jby (hE:TwoE E1 E2) (f1:Fine E1) (f2:Fine E2) (hP:PV (E1++E2)) :Gi (uL (Vk E1 E2)) how (Vk E1 E2).length=vD E1 E2 how:=by
 have hkl: (VQ (E1++E2)).length= (Vk E1 E2).length:=by rw [←Bv,jip]
 have key:∀i,i≤(Vk E1 E2).length→Gi (uL (Vk E1 E2)) how i=xU E1 E2 how (VQ (E1++E2)) i:=by
  intro i
  induction i with
  | zero=>intro _;rfl
  | succ i ih=>
   intro hi
   have hik:i< (VQ (E1++E2)).length:=by omega
   have hnt:=Ek (l:=Vk E1 E2) (k:=i) Om
   have hlg:lg (VQ (E1++E2)) i= (nt (Vk E1 E2) i).e:=by
    rw [←Bv]
    have hi':i< (Vk E1 E2).length:=by omega
    simp [lg,nt,List.getD,hi']
   obtain ⟨hkey,e0,he0,hp⟩ :=Xf hE.ok hE.ne (p:=lg (VQ (E1++E2)) i) (by rw [←Uf hik];exact jir hik)
   have hc1:Rz E1 (nt (Vk E1 E2) i).e:=by rw [←hlg,hp];exact MB (fun e he=>jjg _ he) hE.ne hP he0
   have hc2:Rz E2 (nt (Vk E1 E2) i).e:=by rw [←hlg,hp];exact MB (fun e he=>jjM _ he) hE.ne hP he0
   have k1:Key E1 (nt (Vk E1 E2) i).e:=by rw [←hlg];exact⟨hkey.ok,hkey.ne,hkey.ord⟩
   have k2:Key E2 (nt (Vk E1 E2) i).e:=by rw [←hlg];exact⟨hkey.ok,hkey.ne,hkey.ord⟩
   have n1:=jbU (Rk E1 E2) (jhd E1 E2) f1 (k:=i) Om hc1 k1
   have n2:=jbU (Rk E1 E2) (jhe E1 E2) f2 (k:=i) Om hc2 k2
   rw [Gj (by rw [TR];omega),Gh hik,ih Om,hnt,hlg,n1,n2]
   simp only [sdN,Vm,jjb,if_false,if_true]
   rw [show QE false (Vk E1 E2) i (Vk E1 E2).length+ (nt (Vk E1 E2) i).one- (nt (Vk E1 E2) i).one=QE false (Vk E1 E2) i (Vk E1 E2).length by omega,
    show QE true (Vk E1 E2) i (Vk E1 E2).length+ (nt (Vk E1 E2) i).two- (nt (Vk E1 E2) i).two=QE true (Vk E1 E2) i (Vk E1 E2).length by omega]
 rw [key _ (jif _),vD,hkl]
theorem jfv (E1 E2:List Leg) : (Vk E1 E2).length≤E1.length+E2.length:=by
 have h1:=WO (s:=true) E2 (Qj false E1 [])
 have h2:=WO (s:=false) E1 []
 rw [Vk]
 simp only [jiw] at h2
 omega
theorem jhP (E1 E2:List Leg) (t:Bool) :aS t (Vk E1 E2)≤E1.length+E2.length:=by
 have h1:=YS (s:=true) (t:=t) E2 (Qj false E1 [])
 have h2:=YS (s:=false) (t:=t) E1 []
 rw [jbg] at h2
 rw [Vk]
 split at h1<;>split at h2<;>omega
theorem B9 (NL:List Nt) (x:Option Addr×Nat) (how:Int) (w:World) (hr: (JS 0 262 8 NL.length ((uL NL).flatMap qm) x).P w) (hl:NL.length≤4096) (ha:∀t,aS t NL≤16384) :
  Calls Tryz.prog 190 #[.slice x.1 NL.length x.2, .int .i64 how] w fun e w'=>∃v,e= .returned v∧w'.ownsRow w.heap.size 147 4 v (Gi (uL NL) how NL.length).length ((Gi (uL NL) how NL.length).flatMap Je)∧Over w w':=by
 have hsl:=TR NL
 refine jK (m:=84) (Tryz.func190) J J (lb J) ?_;refine S7 ?_;refine jX J J (WI) J (lb J) (fun b1=> ?_);refine KQ 0 4 J J ?_;refine N8 ?_;refine JE (X:=Nat×Option Addr×Nat) (fun y=>y.1≤NL.length) (fun y=>NL.length- y.1) (fun y=> [(5, .slice y.2.1 (Gi (uL NL) how y.1).length y.2.2),(6, .int .i64 (y.1:Int))]) (kK [0,1,4]) (fun y=> [JS (Bs.N ⟨w,[]⟩) 147 4 (Gi (uL NL) how y.1).length ((Gi (uL NL) how y.1).flatMap Je) y.2]) (0,some ⟨b1,0,none⟩,0) (jie _) ⟨J,sz⟩ (fun _ h=>h) ?_
 intro⟨i,rA,rc⟩ hi L hL1
 refine v9 ?_;refine r9 ?_
 have hi:i≤NL.length:=hi
 have hbl:=RU (L:=uL NL) (how:=how) i Om
 refine S8 ?_;refine cZ (fun c1=> ?_) (fun c1=> ?_)
 ·have hlt:i<NL.length:=Om
  have hlS:i< (uL NL).length:=Om
  have hst:=Gj (how:=how) hlS
  have hnt:=Ek hlt
  have hd1:=U6 (s:=false) (k:=i) (jif NL.length)
  have hd2:=U6 (s:=true) (k:=i) (jif NL.length)
  have hc1:=Z8 (s:=false) hlt
  have hc2:=Z8 (s:=true) hlt
  have ha1:=ha false
  have ha2:=ha true
  simp only [Vm,if_true,jjb,if_false] at hc1 hc2
  have e1: (sdN NL i).l1=QE false NL i NL.length+ (nt NL i).one:=rfl
  have e2: (sdN NL i).l2=QE true NL i NL.length+ (nt NL i).two:=rfl
  obtain ⟨X,hX⟩ :∃X,X=nt (uL NL) i:=⟨_,rfl⟩
  have hb1: -40000≤X.l1∧X.l1≤40000:= (by rw [hX,hnt,e1];omega)
  have hb2: -40000≤X.l2∧X.l2≤40000:= (by rw [hX,hnt,e2];omega)
  have hb3: -20000≤X.one∧X.one≤20000:= (by rw [hX,hnt];show-20000≤(nt NL i).one∧(nt NL i).one≤20000;omega)
  have hb4: -20000≤X.two∧X.two≤20000:= (by rw [hX,hnt];show-20000≤(nt NL i).two∧(nt NL i).two≤20000;omega)
  rw [←hX] at hst
  refine S8 ?_;refine a9 (qM (j:=i) (fun w hs=>Qn hr hs.fin) J J J JM hlt) ?_;refine S4 ?_;refine JH 11 ?_;refine dK 0 ?_;refine dK 1 ?_;refine dK 2 ?_;refine dZ 3 J (jq J J jt (xz (i:=6) (v:= .int .i64 X.l1) (fun w hs=>Qn hr hs.fin) hlS Om (by rw [hX];rfl))) ?_;refine dK 4 ?_;refine dK 5 ?_;refine dK 6 ?_;refine dZ 7 J (jq J J jt (xz (i:=7) (v:= .int .i64 X.l2) (fun w hs=>Qn hr hs.fin) hlS Om (by rw [hX];rfl))) ?_;refine dK 8 ?_;refine dZ 9 J (jG UI J J (fun w1 hs=>HS X.l1 X.l2 how w1)) ?_;refine dK 10 ?_;refine JB Kr ?_;refine S3 ?_;refine JH 21 ?_;refine dK 0 ?_;refine dK 1 ?_;refine dK 2 ?_;refine dZ 3 J (jq J J jt (xz (i:=6) (v:= .int .i64 X.l1) (fun w hs=>Qn hr hs.fin) hlS Om (by rw [hX];rfl))) ?_;refine dK 4 ?_;refine dK 5 ?_;refine dK 6 ?_;refine dZ 7 J (jq J J jt (xz (i:=4) (v:= .int .i64 X.one) (fun w hs=>Qn hr hs.fin) hlS Om (by rw [hX];rfl))) ?_;refine dK 8 ?_;refine dK 9 ?_;refine dK 10 ?_;refine dK 11 ?_;refine dZ 12 J (jq J J jt (xz (i:=7) (v:= .int .i64 X.l2) (fun w hs=>Qn hr hs.fin) hlS Om (by rw [hX];rfl))) ?_;refine dK 13 ?_;refine dK 14 ?_;refine dK 15 ?_;refine dZ 16 J (jq J J jt (xz (i:=5) (v:= .int .i64 X.two) (fun w hs=>Qn hr hs.fin) hlS Om (by rw [hX];rfl))) ?_;refine dK 17 ?_;refine dK 18 ?_;refine dZ 19 J (jG UI J J (fun w1 hs=>HS (X.l1- X.one) (X.l2- X.two) how w1)) ?_;refine dK 20 ?_;refine JB Kr ?_
  obtain ⟨lf,hlf⟩ :∃lf,lf=VE X.l1 X.l2 how:=⟨_,rfl⟩
  obtain ⟨rf,hrf⟩ :∃rf,rf=VE (X.l1- X.one) (X.l2- X.two) how:=⟨_,rfl⟩
  rw [←hlf,←hrf] at hst
  rw [←hlf,←hrf]
  refine S2 ?_;refine qr [(50, .bool (lf&& !rf))] (kK [0,1,4,5,6,11,12,13,14,17,18,19,7,20,21,22,23,24,25,26,27,28,29,8,30,31,32,33,34,35,36,37,38,39,40,41,42,43,44,45,46,47,48,49,9]) (fun L h_8=> ?_) ?_
  ·refine S3 ?_;refine cV 52 (fun g1=> ?_) (fun g1=> ?_)
   ·refine S7 ?_
    exact Js h_8 ⟨vb (by rw [g1,jiJ]),sz⟩ (u9 J)
   ·refine S5 ?_
    exact Js h_8 ⟨vb (by rw [g1,jiS]),sz⟩ (u9 J)
  ·refine v9 ?_;refine cZ (fun c2=> ?_) (fun c2=> ?_)
   ·refine S5 ?_;refine a9 (jk J J KG J (ZX [.int .i64 X.e.ax, .int .i64 X.e.ay, .int .i64 X.e.bx, .int .i64 X.e.b_y] 0 (fun w hs=>Qn hr hs.fin) hlS Om (by rw [hX];exact LV J J J J))) ?_;refine S1 ?_;refine jX J J (kg J) J (lb J) (fun b2=> ?_);refine N1 ?_;refine JK (k:=0) J Ju Qx Dc J Dc J J J (fun w' hs=>qD hs (k:=1) J J) (by simp [Value.oneCell']) (by unfold maxLen;omega) Om (jif _) (fun r1=> ?_);refine N10 ?_
    exact Jd hL1 ((i+1,r1)) ((show i+1≤NL.length by omega)) (by simp only;omega) ⟨(by rw [hst,BL,if_pos c2,jid];rfl),vi Om,sz⟩ (fun _ h=>h.upto ⟨by rw [hst,BL,if_pos c2,jid,jii];rfl,trivial⟩)
   ·refine qr [(63, .bool (rf&& !lf))] (kK [0,1,4,5,6,11,12,13,14,17,18,19,7,20,21,22,23,24,25,26,27,28,29,8,30,31,32,33,34,35,36,37,38,39,40,41,42,43,44,45,46,47,48,49,9,50]) (fun L h_10=> ?_) ?_
    ·refine S3 ?_;refine cV 65 (fun g2=> ?_) (fun g2=> ?_)
     ·refine S7 ?_
      exact Js h_10 ⟨vb (by rw [g2,jiJ]),sz⟩ (u9 J)
     ·refine S5 ?_
      exact Js h_10 ⟨vb (by rw [g2,jiS]),sz⟩ (u9 J)
    ·refine v9 ?_;refine cZ (fun c3=> ?_) (fun c3=> ?_)
     ·refine S1 ?_;refine JH 13 ?_;refine dK 0 ?_;refine dV 1 [2,3,4,5,11,12] ?_;refine dV 2 [3,4,5,11,12] ?_;refine dV 3 [4,5,11,12] ?_;refine dV 4 [5,11,12] ?_;refine d9 5 J [11,12] (u9 J) (jk J J jj J (ZX [.int .i64 X.e.bx, .int .i64 X.e.b_y] 2 (fun w hs=>Qn hr hs.fin) hlS Om (by rw [hX];exact xF J J))) ?_;refine dV 6 [7,8,9,10,11,12] ?_;refine dV 7 [8,9,10,11,12] ?_;refine dV 8 [9,10,11,12] ?_;refine dV 9 [10,11,12] ?_;refine d9 10 J [11,12] (u9 J) (jk J J jj J (ZX [.int .i64 X.e.ax, .int .i64 X.e.ay] 0 (fun w hs=>Qn hr hs.fin) hlS Om (by rw [hX];exact xF J J))) ?_;refine d9 11 J [12] (u9 J) (JF J J (Kb J J)) ?_;refine qd (i:=12) J Dc Kr J ?_;refine jX J J (kg J) J (lb J) (fun b3=> ?_);refine n9 ?_;refine JU (u9 J) ?_;refine kN J Kr J ?_;refine JK (k:=0) J Ju Qx Dc J Dc J J J (fun w' hs=>qD hs (k:=1) J J) (by simp [Value.oneCell']) (by unfold maxLen;omega) Om (jif _) (fun r2=> ?_);refine n9 ?_;refine JH 15 ?_;refine dK 14 ?_;refine JB Kr ?_;refine S8 ?_
      exact Jd hL1 ((i+1,r2)) ((show i+1≤NL.length by omega)) (by simp only;omega) ⟨(by rw [hst,BL,if_neg (by rw [c2];simp),if_pos c3,jid];rfl),vi Om,sz⟩ (fun _ h=>h.upto ⟨by rw [hst,BL,if_neg (by rw [c2];simp),if_pos c3,jid,jii];rfl,trivial⟩)
     ·refine S9 ?_
      exact Jd hL1 ((i+1,rA,rc)) ((show i+1≤NL.length by omega)) (by simp only;omega) ⟨(by rw [hst,BL,if_neg (by rw [c2];simp),if_neg (by rw [c3];simp),jiC];rfl),vi Om,sz⟩ (fun _ h=>h.upto ⟨by rw [hst,BL,if_neg (by rw [c2];simp),if_neg (by rw [c3];simp),jiC],trivial⟩)
 ·have hik:i=NL.length:=Om
  rw [hik]
  refine S11 ?_;refine jJ J (.tmp J) ?_
  intro w' hs
  have hr2:=hs.all 0 _ rfl
  exact⟨_,rfl,Q5 hr2.1 (fun b hb=> (hr2.2.1 b hb).elim id (fun h=>by cases h)),hs.fin⟩
end Go.Proofs.YtbahojdbmmjkcaaGreat
namespace Go.Proofs.YtbahojdbmmjkcaaGreat
open Go Go.RowKit
variable {es:List (Pn×Pn)} {rs:List Jp}
theorem jcZ {z:Pn} (h1:Lk es z) (h2:∀e,es.head?=some e→e.1=z) :vU (es.map (·.1)) =es:=by
 obtain ⟨g1,g2⟩ :=jcp h1
 have hp:∀j (hj:j<es.length),pt (es.map (·.1)) j=es[j].1:=fun j hj=>by
  rw [←kB (by simpa using hj)]
  simp
 refine jjp (by simp [vU]) fun j hj hj'=> ?_
 simp only [vU,jje,jjB]
 refine Prod.ext (hp j hj') ?_
 show pt (es.map (·.1)) (nx (es.map (·.1)) j) =_
 by_cases hj1:j+1<es.length
 ·rw [show nx (es.map (·.1)) j=j+1 from jju (by simpa using hj1),hp _ hj1,←g1 j hj1]
 ·have hk:0<es.length:=by omega
  rw [show nx (es.map (·.1)) j=0 by unfold nx;rw [jip,show j+1=es.length by omega,Nat.mod_self],hp 0 hk]
  have hz: (es[0]'hk).1=z:=h2 _ (by cases es with | nil=>simp at hk | cons a l=>rfl)
  have:es.length- 1=j:=by omega
  rw [hz,←g2 hk]
  simp only [this]
theorem Ny {xs:List Pn} (h0:0<xs.length) (hk:0< (vc xs).length) :qf (vc xs) =qf xs:=by
 obtain ⟨h1,h2⟩ :=DP h0
 have e:vc xs= ((qf xs).map NY).map (·.1) :=by rw [List.map_map];rfl
 rw [Vo (DZ h0 hk),e,jcZ h1 h2,List.map_map]
 conv=>rhs;rw [←List.map_id (qf xs)]
 rfl
theorem DA (rs ss:List Jp) :∀k,k≤rs.length→Qe (rs++ss) k=Qe rs k
 | 0,_=>rfl
 | k+1,hk=>by
  show Qe (rs++ss) k++qf (rg (rs++ss) k) =Qe rs k++qf (rg rs k)
  rw [DA rs ss k Om]
  congr 2
  simp only [rg,List.getD_eq_getElem?_getD,List.getElem?_append_left (show k<rs.length by omega)]
theorem Mq (rs ss:List Jp) :∀k,Qe (rs++ss) (rs.length+k) =Jw rs++Qe ss k
 | 0=>by
  rw [jjO,DA rs ss _ (jif _)]
  exact(jiC _).symm
 | k+1=>by
  show Qe (rs++ss) (rs.length+k) ++qf (rg (rs++ss) (rs.length+k)) =Jw rs++ (Qe ss k++qf (rg ss k))
  rw [Mq rs ss k,jil]
  congr 3
  simp only [rg,List.getD_eq_getElem?_getD,List.getElem?_append_right (Nat.le_add_right _ _),Nat.add_sub_cancel_left]
theorem yY (rs ss:List Jp) :Jw (rs++ss) =Jw rs++Jw ss:=by
 unfold Jw
 rw [jid]
 exact Mq rs ss _
theorem F6 (r:Jp) :Jw [r] =qf r:=rfl
theorem xO {rs:List Jp} (hr:J0 rs=true) :∀k,k≤rs.length→Jw (vg rs k) =Qe rs k
 | 0,_=>rfl
 | k+1,hk=>by
  have ih:=xO hr k Om
  have hp:=Qz (VK hr (show k<rs.length by omega))
  show _=Qe rs k++qf (rg rs k)
  by_cases h:0< (vc (rg rs k)).length
  ·rw [yP Om h,yY,ih,F6,Ny hp.1 h]
  ·rw [Zl Om h,ih]
   have e: (qf (rg rs k)).length= (vc (rg rs k)).length:= (jip ..).symm
   rw [jiE (show(qf (rg rs k)).length=0 by omega),jiC]
theorem VC (hr:J0 rs=true) :Jw (qh rs) =Jw rs:=xO hr _ (jif _)
theorem jb6 {E:List Leg} (hE:∀l∈E,qU l) (hl:E.length≤400) {ss:List Jp} (hr:J0 ss=true) (hb:∀r∈ss,bare r) (hs:∀l∈Jw ss,l∈E) :HotOk (jey E) ss:=by
 have hends:∀l∈E,lA l∈jey E:=fun l hl=>by
  obtain ⟨k,hk,e⟩ :=jiU hl
  have:= (SE (E:=E) _ (jif _) k hk).1
  rw [jgv hk,e] at this
  exact(wF _ _).2 this
 refine⟨hr,fun p hp=>yQ (Cl hE _ (jif _) p ((wF _ _).1 hp)),wD _,EJ (wD _),?_,fun r h=>⟨hb r h,fun p hp=> ?_⟩⟩
 ·have h1:=wE (YM E E.length)
  have h2:=Zr E E.length
  have h3:E.length* (E.length+2)≤400*402:=jjv hl Om
  unfold jey
  omega
 ·have hbr:=hb r h
  have hp2:p∈(qf r).map lA:=by
   rw [Vo hbr,List.map_map]
   have e2: (vU r).map (lA∘mkL) = (vU r).map (·.1) :=rfl
   rw [e2,Fi]
   exact hp
  obtain ⟨l,hl,rfl⟩ :=jiD.1 hp2
  exact hends l (hs l (Zt.2 ⟨r,h,hl⟩))
structure CmOk (rs ss:List Jp) :Prop where
 r1:J0 rs=true
 r2:J0 ss=true
 len: (Jw rs++Jw ss).length≤400
def Rr (rs ss:List Jp) :List Leg:=Jw rs++Jw ss
def za (rs ss:List Jp) :List Pn:=jey (Rr rs ss)
def Y9 (rs ss:List Jp) :List Jp:=TX (za rs ss) (qh rs)
def yX (rs ss:List Jp) :List Jp:=TX (za rs ss) (qh ss)
def ut (rs ss:List Jp) :Bool:=Rc (za rs ss) (qh rs)
def UY (rs ss:List Jp) :Bool:=Rc (za rs ss) (qh ss)
def KA (rs ss:List Jp) (how:Int) :List Leg:=vD (Jw (Y9 rs ss)) (Jw (yX rs ss)) how
def vR (rs ss:List Jp) (how:Int) :List Jp:=Wx (KA rs ss how)
section
variable {rs ss:List Jp}
theorem CmOk.legs (h:CmOk rs ss) :∀l∈Rr rs ss,qU l:=fun l hl=> (jit.1 hl).elim (jdg h.r1 l) (jdg h.r2 l)
theorem CmOk.hot1 (h:CmOk rs ss) :HotOk (za rs ss) (qh rs) :=jb6 h.legs h.len (yO h.r1) (YX h.r1) fun l hl=>jjg _ (by rwa [VC h.r1] at hl)
theorem CmOk.hot2 (h:CmOk rs ss) :HotOk (za rs ss) (qh ss) :=jb6 h.legs h.len (yO h.r2) (YX h.r2) fun l hl=>jjM _ (by rwa [VC h.r2] at hl)
theorem Lb {hot:List Pn} (hk:HotOk hot rs) (h:Rc hot rs=true) :J0 (TX hot rs) =true∧Qg hot (TX hot rs) =TX hot rs∧∃n,TX hot rs=SH hot n rs:=by
 cases hs:Bm hot rs with
 | none=>rw [(Rd hs).2.2] at h;cases h
 | some x=>
  obtain ⟨s,r⟩ :=x
  rw [(Re hs).1]
  exact⟨jdN hk.nd hk.reg hk.bare hs,Es _ hs⟩
theorem CmOk.pair (h:CmOk rs ss) (ha:ut rs ss=true) (hb:UY rs ss=true) :PV (Jw (Y9 rs ss) ++Jw (yX rs ss)) :=by
 have k1:=h.hot1
 have k2:=h.hot2
 obtain ⟨_,f1,n1,i1⟩ :=Lb k1 ha
 obtain ⟨_,f2,n2,i2⟩ :=Lb k2 hb
 have e1:SH (za rs ss) (n1+n2) (qh rs) =Y9 rs ss:=by rw [Ii,←i1,Ij f1];rfl
 have e2:SH (za rs ss) (n1+n2) (qh ss) =yX rs ss:=by rw [Nat.add_comm,Ii,←i2,Ij f2];rfl
 have e:SH (za rs ss) (n1+n2) (qh rs++qh ss) =Y9 rs ss++yX rs ss:=by rw [Co,e1,e2]
 have hb0:bareG (za rs ss) (qh rs++qh ss) :=fun r hr=> (jit.1 hr).elim (k1.bare r) (k2.bare r)
 have he0:Jw (qh rs++qh ss) =Rr rs ss:=by rw [yY,VC h.r1,VC h.r2];rfl
 have hi:=Cp k1.nd (n1+n2) _ hb0 (by rw [he0];exact jac fun p hp=> (wF _ _).2 hp)
 rw [e] at hi
 have hfix:Qg (za rs ss) (Y9 rs ss++yX rs ss) =Y9 rs ss++yX rs ss:=by
  unfold Qg at*
  rw [jiG]
  have a: (Y9 rs ss).map (KD (za rs ss)) =Y9 rs ss:=f1
  have b: (yX rs ss).map (KD (za rs ss)) =yX rs ss:=f2
  rw [a,b]
 have hx:=SG k1.nd hi.1 hi.2
 rw [hfix] at hx
 intro x hx1 y hy1
 rw [←yY] at hx1 hy1
 exact ja6 hi.1 hfix hx (fun p hp=>Wi (k1.ok p hp)) hx1 hy1
theorem CmOk.two (h:CmOk rs ss) (ha:ut rs ss=true) (hb:UY rs ss=true) :TwoE (Jw (Y9 rs ss)) (Jw (yX rs ss)) :=by
 obtain ⟨r1,_⟩ :=Lb h.hot1 ha
 obtain ⟨r2,_⟩ :=Lb h.hot2 hb
 have g1:=x5 r1
 have g2:=x5 r2
 exact⟨g1.ok,g2.ok,g1.ne,g2.ne,G5 r1,G5 r2⟩
theorem CmOk.okT (h:CmOk rs ss) (ha:ut rs ss=true) (hb:UY rs ss=true) (how:Int) :okRs (vR rs ss how) :=by
 have hB:BoOk (KA rs ss how) :=Z6 (h.two ha hb)
 have hl:=hB.len
 obtain ⟨h1,h2⟩ :=yH (B:=KA rs ss how) _ (jif _)
 refine⟨by unfold vR Wx;omega,fun r hr=> ?_⟩
 obtain ⟨g1,g2,g3⟩ :=h2 r hr
 refine⟨g1,by omega,fun p hp=> ?_⟩
 obtain ⟨j,hj,rfl⟩ :=g3 p hp
 exact(VR (kk hB.ok hj)).wide
end
def MT (how:Int) :Bool:=decide (1≤how) &&decide (how≤4)
def Gk (rs ss:List Jp) :Bool:=J0 rs&&J0 ss
def ZN (rs ss:List Jp) :Bool:=decide ((Jw rs++Jw ss).length≤400) && (ut rs ss&&UY rs ss)
def Nb (rs ss:List Jp) (how:Int) :List Jp:=if ZN rs ss=true then Lv (Wq (vR rs ss how)) else []
def coC (rs ss:List Jp) (how:Int) :Int:=if ZN rs ss=true then yf (Wq (vR rs ss how)) else 5
def yU (rs ss:List Jp) (how:Int) :List Jp:=if Gk rs ss=true then(if MT how=true then Nb rs ss how else []) else []
def BT (rs ss:List Jp) (how:Int) :Int:=if Gk rs ss=true then(if MT how=true then coC rs ss how else 2) else 1
theorem EV (rs ss:List Jp) (how:Int) :smallR (Nb rs ss how) :=by
 unfold Nb
 split
 ·exact NC _
 ·exact smallR.nil
theorem ES (rs ss:List Jp) (how:Int) :smallR (yU rs ss how) :=by
 unfold yU
 split
 ·split
  ·exact EV ..
  ·exact smallR.nil
 ·exact smallR.nil
end Go.Proofs.YtbahojdbmmjkcaaGreat
