import Derived.Test.YtbahojdbmmjkcaaGreatPBrd
import Derived.Test.YtbahojdbmmjkcaaGreatPSnapG
import Derived.Test.YtbahojdbmmjkcaaGreatPTo
import Derived.Test.YtbahojdbmmjkcaaGreatPTrI
import Derived.Test.YtbahojdbmmjkcaaGreatPNetT
set_option linter.unusedVariables false
set_option linter.unusedSimpArgs false
namespace Go.Proofs.YtbahojdbmmjkcaaGreat
open Go Go.RowKit
variable {E1 E2 es:List Leg} {how:Int}
set_option maxRecDepth 100000
set_option maxHeartbeats 4000000
theorem jdm {o p q:Pn} (hp:p≠o) (hq:q≠o) (h:ul o p q) :UJ o q p=true∨UJ o p q=true:=by
 obtain ⟨ht,hd⟩ :=h
 have ht':tn o q p=0:=by rw [Ln];omega
 by_cases h1:UJ o q p=true
 ·exact .inl h1
 by_cases h2:UJ o p q=true
 ·exact .inr h2
 exfalso
 obtain ⟨m,n,hm,hn,e1,e2⟩ :=Gb (Ne.symm hq) ht' h1
 obtain ⟨m',n',hm',hn',e1',e2'⟩ :=Gb (Ne.symm hp) ht h2
 have hne:p.1- o.1≠0∨p.2- o.2≠0:=by
  by_cases k:p.1- o.1=0
  ·exact .inr fun k2=>hp (Prod.ext Om Om)
  ·exact .inl k
 have hne':q.1- o.1≠0∨q.2- o.2≠0:=by
  by_cases k:q.1- o.1=0
  ·exact .inr fun k2=>hq (Prod.ext Om Om)
  ·exact .inl k
 have hP:0< (p.1- o.1) * (p.1- o.1) + (p.2- o.2) * (p.2- o.2) :=by
  have s1:=kx (a:=p.1- o.1) (b:=p.1- o.1) rfl
  have s2:=kx (a:=p.2- o.2) (b:=p.2- o.2) rfl
  omega
 have hQ:0< (q.1- o.1) * (q.1- o.1) + (q.2- o.2) * (q.2- o.2) :=by
  have s1:=kx (a:=q.1- o.1) (b:=q.1- o.1) rfl
  have s2:=kx (a:=q.2- o.2) (b:=q.2- o.2) rfl
  omega
 have f1:n* (q.1- o.1) = (n- m) * (p.1- o.1) :=by
  have:n* (q.1- o.1) =n* (q.1- p.1) +n* (p.1- o.1) :=by grind
  rw [this,←e1];grind
 have f2:n* (q.2- o.2) = (n- m) * (p.2- o.2) :=by
  have:n* (q.2- o.2) =n* (q.2- p.2) +n* (p.2- o.2) :=by grind
  rw [this,←e2];grind
 have f1':n'* (p.1- o.1) = (n'- m') * (q.1- o.1) :=by
  have:n'* (p.1- o.1) =n'* (p.1- q.1) +n'* (q.1- o.1) :=by grind
  rw [this,←e1'];grind
 have f2':n'* (p.2- o.2) = (n'- m') * (q.2- o.2) :=by
  have:n'* (p.2- o.2) =n'* (p.2- q.2) +n'* (q.2- o.2) :=by grind
  rw [this,←e2'];grind
 generalize p.1- o.1=p1 at*
 generalize p.2- o.2=p2 at*
 generalize q.1- o.1=q1 at*
 generalize q.2- o.2=q2 at*
 have g1:n* (q1*q1+q2*q2) = (n- m) * (p1*q1+p2*q2) :=by
  have:n* (q1*q1+q2*q2) =q1* (n*q1) +q2* (n*q2) :=by grind
  rw [this,f1,f2];grind
 have g2:n'* (p1*p1+p2*p2) = (n'- m') * (p1*q1+p2*q2) :=by
  have:n'* (p1*p1+p2*p2) =p1* (n'*p1) +p2* (n'*p2) :=by grind
  rw [this,f1',f2'];grind
 have k1:=jhm hn hQ
 have k2:=jhm hn' hP
 have s1:=kx (a:=n- m) (b:=p1*q1+p2*q2) rfl
 have s2:=kx (a:=n'- m') (b:=p1*q1+p2*q2) rfl
 have a1:0<n- m:=by omega
 have a2:0<n'- m':=by omega
 have g3:n*n'* (p1*p1+p2*p2) = (n- m) * (n'- m') * (p1*p1+p2*p2) :=by
  have x1:n*n'* (p1*p1+p2*p2) =p1* (n* (n'*p1)) +p2* (n* (n'*p2)) :=by grind
  rw [x1,f1',f2']
  have x2:p1* (n* ((n'- m') *q1)) +p2* (n* ((n'- m') *q2)) = (n'- m') * (p1* (n*q1) +p2* (n*q2)) :=by grind
  rw [x2,f1,f2]
  grind
 have b1: (n- m) * (n'- m')≤(n- m) *n':=jg5 Om Om
 have b2: (n- m) *n'<n*n':=jg6 Om hn'
 have b3:=jg6 (show(n- m) * (n'- m') <n*n' by omega) hP
 omega
theorem NQ {a b c d o p q:Pn} (h:Xb a b c d=true) (h1: (a=o∧b=p)∨(a=p∧b=o)) (h2: (c=o∧d=q)∨(c=q∧d=o)) (hp:p≠o) (hq:q≠o) (hs:ul o p q) :p=q:=Decidable.byContradiction fun hpq=>by
 have ona:∀x,UJ o p x=true→UJ a b x=true:=fun x hx=>by
  rcases h1 with⟨rfl,rfl⟩ |⟨rfl,rfl⟩
  ·exact hx
  ·rw [RG];exact hx
 have onc:∀x,UJ o q x=true→UJ c d x=true:=fun x hx=>by
  rcases h2 with⟨rfl,rfl⟩ |⟨rfl,rfl⟩
  ·exact hx
  ·rw [RG];exact hx
 have mem:∀x,x=o∨x=p∨x=q→UJ o p x=true→UJ o q x=true→x∈Q3 a b c d:=fun x h0 k1 k2=>Q9.2 ⟨by
  rcases h1 with⟨rfl,rfl⟩ |⟨rfl,rfl⟩ <;>rcases h2 with⟨rfl,rfl⟩ |⟨rfl,rfl⟩ <;>rcases h0 with rfl | rfl | rfl<;>simp,by
  unfold Kz
  rw [ona x k1,onc x k2]
  rfl⟩
 have ho:=mem o (.inl rfl) (x8 o p) (x8 o q)
 have h3:Q4 a b c d=3:=by
  rcases jdm hp hq hs with k | k
  ·exact XW ho (mem p (.inr (.inl rfl)) (H8 o p) k) (Ne.symm hp)
  ·exact XW ho (mem q (.inr (.inr rfl)) k (H8 o q)) (Ne.symm hq)
 have hap:Wt a b c d=false:=by
  rw [Wt]
  simp only [Bool.or_eq_false_iff,decide_eq_false_iff_not]
  rcases h1 with⟨rfl,rfl⟩ |⟨rfl,rfl⟩ <;>rcases h2 with⟨rfl,rfl⟩ |⟨rfl,rfl⟩ <;>omega
 unfold Xb at h
 rw [hap,h3] at h
 simp only [jhr,if_false,show¬((3:Int) =2) by omega,show¬((3:Int) =1) by omega,if_true,decide_eq_true_eq] at h
 rcases h1 with⟨rfl,rfl⟩ |⟨rfl,rfl⟩ <;>rcases h2 with⟨rfl,rfl⟩ |⟨rfl,rfl⟩ <;>rcases h with⟨k1,k2⟩ |⟨k1,k2⟩ <;>first | exact hpq k1 | exact hpq k2 | exact hpq k1.symm | exact hpq k2.symm | exact hp k1 | exact hp k2 | exact hq k1 | exact hq k2 | exact hp k1.symm | exact hq k2.symm | exact hp k2.symm | exact hq k1.symm
def TZ (E:List Leg) :Prop:=∀e∈E,∀f∈E,Xb (lA e) (lB e) (lA f) (lB f) =true
theorem jdT {p l:Leg} {a b:Bool} (h:l∈Oq p a b) :l=p∨l=vD p:=by
 unfold Oq at h
 split at h
 ·exact .inl (jgC.1 h)
 ·split at h
  ·exact .inr (jgC.1 h)
  ·cases h
theorem jc8 {p:Leg} (h:Key es p) :Ky p=p∧Ky (vD p) =p:=by
 have h1:Ky p=p:=by unfold Ky;rw [if_neg h.ord]
 exact⟨h1,by rw [Fp h.ne,h1]⟩
theorem DA (hE:TwoE E1 E2) {l:Leg} (h:l∈vj E1 E2 how) :∃e∈E1++E2,(l=e∨l=vD e) :=by
 unfold vj xg at h
 rw [jhf] at h
 obtain ⟨p,hp,hl⟩ :=jh3.1 h
 obtain ⟨_,e,he,h2⟩ :=xx hE.ok hE.ne hp
 refine⟨e,he,?_⟩
 have hn:p=e∨p=vD e:=by rw [h2];unfold Ky;split<;>simp
 rcases jdT hl with rfl | rfl<;>rcases hn with rfl | rfl
 ·exact .inl rfl
 ·exact .inr rfl
 ·exact .inr rfl
 ·exact .inl (B4 e)
theorem SX (es:List Leg) : (VF es).Nodup:=by
 have ha:XE (q8 false es []) :=Wp List.Pairwise.nil
 rw [VF]
 exact List.Pairwise.imp (fun {a b} (h:Zj a b) (e:a=b) =>KR a (by rw [←e] at h;exact h)) (List.pairwise_map.2 ha)
theorem P9 (hE:TwoE E1 E2) : ((vj E1 E2 how).map Ky).Nodup:=by
 have key:∀ks:List Leg,(∀p∈ks,Key (E1++E2) p)→((ks.flatMap fun p=>Oq p (Vr (Z8 E1 p).left (Z8 E2 p).left how) (Vr (Z8 E1 p).right (Z8 E2 p).right how)).map Ky).Sublist ks:=by
  intro ks
  induction ks with
  | nil=>intro _;exact List.Sublist.slnil
  | cons p ks ih=>
   intro hk
   rw [jgU,jgS]
   have h1:=jc8 (hk p (jgZ ..))
   have h2:=ih fun q hq=>hk q (jgP _ hq)
   unfold Oq
   split
   ·simp only [jgM,jgV,h1.1,jg0,jhb]
    exact h2.cons_cons p
   ·split
    ·simp only [jgM,jgV,h1.2,jg0,jhb]
     exact h2.cons_cons p
    ·exact h2.cons p
 unfold vj xg
 rw [jhf]
 exact(SX _).sublist (key _ fun p hp=> (xx hE.ok hE.ne hp).1)
theorem Zu (hE:TwoE E1 E2) :BoOk (vj E1 E2 how) :=by
 refine⟨fun l hl=> ?_,?_⟩
 ·obtain ⟨e,he,h | h⟩ :=DA hE hl
  ·rw [h];exact hE.ok e he
  ·rw [h]
   have:=hE.ok e he
   exact⟨this.2.2.1,this.2.2.2,this.1,this.2.1⟩
 ·have h1:=LE (E1:=E1) (E2:=E2) (how:=how) (ks:=VF (E1++E2)) _ (jgx _)
  have h2:=Rj (es:=E1++E2)
  have h3:=hE.lnE
  have h4:=hE.lnF
  rw [jgv] at h2
  unfold vj
  omega
theorem LF (hE:TwoE E1 E2) (hP:TZ (E1++E2)) :TrOk (vj E1 E2 how) :=by
 have hnd:=P9 (how:=how) hE
 have hin:∀i,i< (vj E1 E2 how).length→lg (vj E1 E2 how) i∈vj E1 E2 how:=fun i hi=>by rw [←VG hi];exact jgH hi
 have hne:∀i,i< (vj E1 E2 how).length→lA (lg (vj E1 E2 how) i)≠lB (lg (vj E1 E2 how) i) :=fun i hi=>by
  obtain ⟨e,he,h | h⟩ :=DA hE (hin i hi)
  ·rw [h];exact hE.ne e he
  ·rw [h];exact fun k=>hE.ne e he k.symm
 have inj:∀i j,i< (vj E1 E2 how).length→j< (vj E1 E2 how).length→Ky (lg (vj E1 E2 how) i) =Ky (lg (vj E1 E2 how) j)→i=j:=fun i j hi hj h=>by
  have h1: ((vj E1 E2 how).map Ky)[i]'(by simpa using hi) = ((vj E1 E2 how).map Ky)[j]'(by simpa using hj) :=by
   rw [jhx,jhx,VG hi,VG hj];exact h
  exact(List.getElem_inj hnd).1 h1
 have ends:∀i,i< (vj E1 E2 how).length→∃e∈E1++E2,(lA e=lA (lg (vj E1 E2 how) i)∧lB e=lB (lg (vj E1 E2 how) i))∨(lA e=lB (lg (vj E1 E2 how) i)∧lB e=lA (lg (vj E1 E2 how) i)) :=fun i hi=>by
  obtain ⟨e,he,h | h⟩ :=DA hE (hin i hi)
  ·exact⟨e,he, .inl ⟨by rw [h],by rw [h]⟩⟩
  ·exact⟨e,he, .inr ⟨by rw [h];rfl,by rw [h];rfl⟩⟩
 refine⟨hne,fun i j hi hj hij hv hs=> ?_,fun i j hi hj hv hs=> ?_⟩
 ·obtain ⟨e,he,k1⟩ :=ends i hi
  obtain ⟨f,hf,k2⟩ :=ends j hj
  have:=NQ (hP e he f hf) (o:=lA (lg (vj E1 E2 how) i)) (p:=lB (lg (vj E1 E2 how) i)) (q:=lB (lg (vj E1 E2 how) j)) k1 (by rw [hv];exact k2) (Ne.symm (hne i hi)) (by rw [hv];exact Ne.symm (hne j hj)) hs
  exact hij (inj i j hi hj (by rw [xB hv this]))
 ·obtain ⟨e,he,k1⟩ :=ends j hj
  obtain ⟨f,hf,k2⟩ :=ends i hi
  have:=NQ (hP e he f hf) (o:=lB (lg (vj E1 E2 how) i)) (p:=lB (lg (vj E1 E2 how) j)) (q:=lA (lg (vj E1 E2 how) i)) (by rw [←hv];exact k1) (k2.symm) (by rw [←hv];exact Ne.symm (hne j hj)) (hne i hi) hs
  have hr:lg (vj E1 E2 how) j=vD (lg (vj E1 E2 how) i) :=xB hv this
  have:=inj j i hj hi (by rw [hr,Fp (hne i hi)])
  subst this
  exact hne j hj (by rw [hv])
def vR (E1 E2:List Leg) :List Nt:=q8 true E2 (q8 false E1 [])
theorem F0 (E1 E2:List Leg) :XE (vR E1 E2) :=Wp (Wp List.Pairwise.nil)
theorem Oa (E1 E2:List Leg) : (vR E1 E2).map (·.e) =VF (E1++E2) :=by
 have h2:XE (q8 false (E1++E2) []) :=Wp List.Pairwise.nil
 refine LB (List.pairwise_map.2 (F0 E1 E2)) (List.pairwise_map.2 h2) fun q=> ?_
 simp only [VF,jgO]
 rw [show(∃a,a∈vR E1 E2∧a.e=q)↔_ from Ws,show(∃a,a∈q8 false (E1++E2) []∧a.e=q)↔_ from Ws,Ws]
 simp only [jhz,false_and,exists_false,false_or,jgL]
 constructor
 ·rintro(⟨e,h1,h2⟩ |⟨e,h1,h2⟩)
  ·exact⟨e, .inl h1,h2⟩
  ·exact⟨e, .inr h1,h2⟩
 ·rintro⟨e,h1 | h1,h2⟩
  ·exact .inl ⟨e,h1,h2⟩
  ·exact .inr ⟨e,h1,h2⟩
theorem jfA (E1 E2:List Leg) (F:Leg→Int) :wS false F (vR E1 E2) =sm (fun e=>sg e*F (Ky e)) E1:=by
 rw [vR,Yz,Yz]
 simp [wS,sm]
theorem jfB (E1 E2:List Leg) (F:Leg→Int) :wS true F (vR E1 E2) =sm (fun e=>sg e*F (Ky e)) E2:=by
 rw [vR,Yz,Yz]
 simp [wS,sm]
theorem LJ {E:List Leg} (hsub:∀e∈es,e∈E) (hne:∀l∈E,lA l≠lB l) (hP:TZ E) {e0:Leg} (he0:e0∈E) :Ic es (Ky e0) :=by
 intro hl e he hn
 have he:=hsub e he
 have hne1:=hne e he
 have hne0:=hne e0 he0
 obtain ⟨m1,m2,m3⟩ :=jdg e0
 have hn':¬((lA e0=lA e∧lB e0=lB e)∨(lA e0=lB e∧lB e0=lA e)) :=by
  rintro(⟨h1,h2⟩ |⟨h1,h2⟩)
  ·exact hn (by rw [xB h1 h2])
  ·have:e=vD e0:=xB (by rw [←h2];rfl) (by rw [←h1];rfl)
   exact hn (by rw [this,Fp hne0])
 have hl0:e0.ay=e0.b_y:=m3.1 hl
 have:=jdh (a:=lA e0) (b:=lB e0) (c:=lA e) (d:=lB e) hl0 (fun h=>hne0 (Prod.ext h hl0)) hne1 hn' (hP e0 he0 e he)
 rw [m1,m2]
 exact this
theorem jac {s:Bool} {l:List Nt} (ha:XE l) (hw:∀F:Leg→Int,wS s F l=sm (fun e=>sg e*F (Ky e)) es) (hf:Fine es) {k:Nat} (hk:k<l.length) (hc:Ic es (nt l k).e) (hkey:Key es (nt l k).e) :
  Z8 es (nt l k).e=⟨(nt l k).e,vU s (nt l k),Qo s l k l.length+vU s (nt l k),Qo s l k l.length⟩ :=by
 have h1:vU s (nt l k) =xK es (nt l k).e:=by
  have:=jex (s:=s) ha (XY hk)
  rw [←this]
  generalize (nt l k).e=p
  rw [hw]
  exact yg fun e _=>by split<;>simp
 have h2:Qo s l k l.length=FE es (nt l k).e:=by
  rw [P5 ha hk]
  generalize (nt l k).e=p
  rw [hw]
  rfl
 rw [jbM hf hc hkey.ord hkey.ne,h1,h2]
def XI (L:List Nt) (how:Int) (i:Nat) :List Leg:= (L.take i).flatMap fun x=>Oq x.e (Vr x.l1 x.l2 how) (Vr (x.l1- x.one) (x.l2- x.two) how)
theorem XJ {L:List Nt} {i:Nat} (h:i<L.length) :XI L how (i+1) =XI L how i++Oq (nt L i).e (Vr (nt L i).l1 (nt L i).l2 how) (Vr ((nt L i).l1- (nt L i).one) ((nt L i).l2- (nt L i).two) how) :=by
 rw [XI,jgE h,jgG,YB h]
 simp [XI]
theorem IC {L:List Nt} {how:Int} :∀i,i≤L.length→(XI L how i).length≤i
 | 0,_=>by simp [XI]
 | i+1,h=>by
  have:=IC (L:=L) (how:=how) i Om
  have h1:=Pt (nt L i).e (Vr (nt L i).l1 (nt L i).l2 how) (Vr ((nt L i).l1- (nt L i).one) ((nt L i).l2- (nt L i).two) how)
  rw [XJ Om,jgv]
  omega
theorem EJ (hE:TwoE E1 E2) (f1:Fine E1) (f2:Fine E2) (hP:TZ (E1++E2)) :XI (ui (vR E1 E2)) how (vR E1 E2).length=vj E1 E2 how:=by
 have hkl: (VF (E1++E2)).length= (vR E1 E2).length:=by rw [←Oa,jgF]
 have key:∀i,i≤(vR E1 E2).length→XI (ui (vR E1 E2)) how i=xg E1 E2 how (VF (E1++E2)) i:=by
  intro i
  induction i with
  | zero=>intro _;rfl
  | succ i ih=>
   intro hi
   have hik:i< (VF (E1++E2)).length:=by omega
   have hnt:=PC (l:=vR E1 E2) (k:=i) Om
   have hlg:lg (VF (E1++E2)) i= (nt (vR E1 E2) i).e:=by
    rw [←Oa]
    have hi':i< (vR E1 E2).length:=by omega
    simp [lg,nt,List.getD,hi']
   obtain ⟨hkey,e0,he0,hp⟩ :=xx hE.ok hE.ne (p:=lg (VF (E1++E2)) i) (by rw [←VG hik];exact jgH hik)
   have hc1:Ic E1 (nt (vR E1 E2) i).e:=by rw [←hlg,hp];exact LJ (fun e he=>jht _ he) hE.ne hP he0
   have hc2:Ic E2 (nt (vR E1 E2) i).e:=by rw [←hlg,hp];exact LJ (fun e he=>jh1 _ he) hE.ne hP he0
   have k1:Key E1 (nt (vR E1 E2) i).e:=by rw [←hlg];exact⟨hkey.ok,hkey.ne,hkey.ord⟩
   have k2:Key E2 (nt (vR E1 E2) i).e:=by rw [←hlg];exact⟨hkey.ok,hkey.ne,hkey.ord⟩
   have n1:=jac (F0 E1 E2) (jfA E1 E2) f1 (k:=i) Om hc1 k1
   have n2:=jac (F0 E1 E2) (jfB E1 E2) f2 (k:=i) Om hc2 k2
   rw [XJ (by rw [R9];omega),XH hik,ih Om,hnt,hlg,n1,n2]
   simp only [sdN,vU,jhr,if_false,if_true]
   rw [show Qo false (vR E1 E2) i (vR E1 E2).length+ (nt (vR E1 E2) i).one- (nt (vR E1 E2) i).one=Qo false (vR E1 E2) i (vR E1 E2).length by omega,
    show Qo true (vR E1 E2) i (vR E1 E2).length+ (nt (vR E1 E2) i).two- (nt (vR E1 E2) i).two=Qo true (vR E1 E2) i (vR E1 E2).length by omega]
 rw [key _ (jgx _),vj,hkl]
theorem jd7 (E1 E2:List Leg) : (vR E1 E2).length≤E1.length+E2.length:=by
 have h1:=Wq (s:=true) E2 (q8 false E1 [])
 have h2:=Wq (s:=false) E1 []
 rw [vR]
 simp only [jgY] at h2
 omega
theorem jgb (E1 E2:List Leg) (t:Bool) :aS t (vR E1 E2)≤E1.length+E2.length:=by
 have h1:=Yy (s:=true) (t:=t) E2 (q8 false E1 [])
 have h2:=Yy (s:=false) (t:=t) E1 []
 rw [Et] at h2
 rw [vR]
 split at h1<;>split at h2<;>omega
theorem OK (NL:List Nt) (x:Option Addr×Nat) (how:Int) (w:World) (hr: (JQ 0 262 8 NL.length ((ui NL).flatMap qi) x).P w) (hl:NL.length≤4096) (ha:∀t,aS t NL≤16384) :
  Calls Tryz.prog 190 #[.slice x.1 NL.length x.2, .int .i64 how] w fun e w'=>∃v,e= .returned v∧w'.ownsRow w.heap.size 147 4 v (XI (ui NL) how NL.length).length ((XI (ui NL) how NL.length).flatMap jU)∧Over w w':=by
 have hsl:=R9 NL
 refine jT (m:=84) (Tryz.func190) J J (lb J) ?_;refine S7 ?_;refine Jw J J (Yo) J (lb J) (fun b1=> ?_);refine vK 0 4 J J ?_;refine N8 ?_;refine JN (X:=Nat×Option Addr×Nat) (fun y=>y.1≤NL.length) (fun y=>NL.length- y.1) (fun y=> [(5, .slice y.2.1 (XI (ui NL) how y.1).length y.2.2),(6, .int .i64 (y.1:Int))]) (kK [0,1,4]) (fun y=> [JQ (Bs.N ⟨w,[]⟩) 147 4 (XI (ui NL) how y.1).length ((XI (ui NL) how y.1).flatMap jU) y.2]) (0,some ⟨b1,0,none⟩,0) (jgw _) ⟨J,sz⟩ (fun _ h=>h) ?_
 intro⟨i,rA,rc⟩ hi L hL1
 refine v9 ?_;refine r9 ?_
 have hi:i≤NL.length:=hi
 have hbl:=IC (L:=ui NL) (how:=how) i Om
 refine S8 ?_;refine cZ (fun c1=> ?_) (fun c1=> ?_)
 ·have hlt:i<NL.length:=Om
  have hlS:i< (ui NL).length:=Om
  have hst:=XJ (how:=how) hlS
  have hnt:=PC hlt
  have hd1:=UP (s:=false) (k:=i) (jgx NL.length)
  have hd2:=UP (s:=true) (k:=i) (jgx NL.length)
  have hc1:=Zw (s:=false) hlt
  have hc2:=Zw (s:=true) hlt
  have ha1:=ha false
  have ha2:=ha true
  simp only [vU,if_true,jhr,if_false] at hc1 hc2
  have e1: (sdN NL i).l1=Qo false NL i NL.length+ (nt NL i).one:=rfl
  have e2: (sdN NL i).l2=Qo true NL i NL.length+ (nt NL i).two:=rfl
  obtain ⟨X,hX⟩ :∃X,X=nt (ui NL) i:=⟨_,rfl⟩
  have hb1: -40000≤X.l1∧X.l1≤40000:= (by rw [hX,hnt,e1];omega)
  have hb2: -40000≤X.l2∧X.l2≤40000:= (by rw [hX,hnt,e2];omega)
  have hb3: -20000≤X.one∧X.one≤20000:= (by rw [hX,hnt];show-20000≤(nt NL i).one∧(nt NL i).one≤20000;omega)
  have hb4: -20000≤X.two∧X.two≤20000:= (by rw [hX,hnt];show-20000≤(nt NL i).two∧(nt NL i).two≤20000;omega)
  rw [←hX] at hst
  refine S8 ?_;refine a9 (qj (j:=i) (fun w hs=>Qc hr hs.fin) J J J JJ hlt) ?_;refine S4 ?_;refine JS 11 ?_;refine dK 0 ?_;refine dK 1 ?_;refine dK 2 ?_;refine dZ 3 J (jl J J jt (ZY (i:=6) (v:= .int .i64 X.l1) (fun w hs=>Qc hr hs.fin) hlS Om (by rw [hX];rfl))) ?_;refine dK 4 ?_;refine dK 5 ?_;refine dK 6 ?_;refine dZ 7 J (jl J J jt (ZY (i:=7) (v:= .int .i64 X.l2) (fun w hs=>Qc hr hs.fin) hlS Om (by rw [hX];rfl))) ?_;refine dK 8 ?_;refine dZ 9 J (jJ Uo J J (fun w1 hs=>GQ X.l1 X.l2 how w1)) ?_;refine dK 10 ?_;refine JI Kr ?_;refine S3 ?_;refine JS 21 ?_;refine dK 0 ?_;refine dK 1 ?_;refine dK 2 ?_;refine dZ 3 J (jl J J jt (ZY (i:=6) (v:= .int .i64 X.l1) (fun w hs=>Qc hr hs.fin) hlS Om (by rw [hX];rfl))) ?_;refine dK 4 ?_;refine dK 5 ?_;refine dK 6 ?_;refine dZ 7 J (jl J J jt (ZY (i:=4) (v:= .int .i64 X.one) (fun w hs=>Qc hr hs.fin) hlS Om (by rw [hX];rfl))) ?_;refine dK 8 ?_;refine dK 9 ?_;refine dK 10 ?_;refine dK 11 ?_;refine dZ 12 J (jl J J jt (ZY (i:=7) (v:= .int .i64 X.l2) (fun w hs=>Qc hr hs.fin) hlS Om (by rw [hX];rfl))) ?_;refine dK 13 ?_;refine dK 14 ?_;refine dK 15 ?_;refine dZ 16 J (jl J J jt (ZY (i:=5) (v:= .int .i64 X.two) (fun w hs=>Qc hr hs.fin) hlS Om (by rw [hX];rfl))) ?_;refine dK 17 ?_;refine dK 18 ?_;refine dZ 19 J (jJ Uo J J (fun w1 hs=>GQ (X.l1- X.one) (X.l2- X.two) how w1)) ?_;refine dK 20 ?_;refine JI Kr ?_
  obtain ⟨lf,hlf⟩ :∃lf,lf=Vr X.l1 X.l2 how:=⟨_,rfl⟩
  obtain ⟨rf,hrf⟩ :∃rf,rf=Vr (X.l1- X.one) (X.l2- X.two) how:=⟨_,rfl⟩
  rw [←hlf,←hrf] at hst
  rw [←hlf,←hrf]
  refine S2 ?_;refine qn [(50, .bool (lf&& !rf))] (kK [0,1,4,5,6,11,12,13,14,17,18,19,7,20,21,22,23,24,25,26,27,28,29,8,30,31,32,33,34,35,36,37,38,39,40,41,42,43,44,45,46,47,48,49,9]) (fun L h_8=> ?_) ?_
  ·refine S3 ?_;refine cV 52 (fun g1=> ?_) (fun g1=> ?_)
   ·refine S7 ?_
    exact Jr h_8 ⟨vb (by rw [g1,jg2]),sz⟩ (u9 J)
   ·refine S5 ?_
    exact Jr h_8 ⟨vb (by rw [g1,jhd]),sz⟩ (u9 J)
  ·refine v9 ?_;refine cZ (fun c2=> ?_) (fun c2=> ?_)
   ·refine S5 ?_;refine a9 (jk J J Kp J (Zk [.int .i64 X.e.ax, .int .i64 X.e.ay, .int .i64 X.e.bx, .int .i64 X.e.b_y] 0 (fun w hs=>Qc hr hs.fin) hlS Om (by rw [hX];exact HZ J J J J))) ?_;refine S1 ?_;refine Jw J J (wq J) J (lb J) (fun b2=> ?_);refine N1 ?_;refine JV (k:=0) J j5 QA Dc J Dc J J J (fun w' hs=>qR hs (k:=1) J J) (by simp [Value.oneCell']) (by unfold maxLen;omega) Om (jgx _) (fun r1=> ?_);refine N10 ?_
    exact j4 hL1 ((i+1,r1)) ((show i+1≤NL.length by omega)) (by simp only;omega) ⟨(by rw [hst,Oq,if_pos c2,jgv];rfl),vi Om,sz⟩ (fun _ h=>h.upto ⟨by rw [hst,Oq,if_pos c2,jgv,jgG];rfl,trivial⟩)
   ·refine qn [(63, .bool (rf&& !lf))] (kK [0,1,4,5,6,11,12,13,14,17,18,19,7,20,21,22,23,24,25,26,27,28,29,8,30,31,32,33,34,35,36,37,38,39,40,41,42,43,44,45,46,47,48,49,9,50]) (fun L h_10=> ?_) ?_
    ·refine S3 ?_;refine cV 65 (fun g2=> ?_) (fun g2=> ?_)
     ·refine S7 ?_
      exact Jr h_10 ⟨vb (by rw [g2,jg2]),sz⟩ (u9 J)
     ·refine S5 ?_
      exact Jr h_10 ⟨vb (by rw [g2,jhd]),sz⟩ (u9 J)
    ·refine v9 ?_;refine cZ (fun c3=> ?_) (fun c3=> ?_)
     ·refine S1 ?_;refine JS 13 ?_;refine dK 0 ?_;refine dV 1 [2,3,4,5,11,12] ?_;refine dV 2 [3,4,5,11,12] ?_;refine dV 3 [4,5,11,12] ?_;refine dV 4 [5,11,12] ?_;refine d9 5 J [11,12] (u9 J) (jk J J jj J (Zk [.int .i64 X.e.bx, .int .i64 X.e.b_y] 2 (fun w hs=>Qc hr hs.fin) hlS Om (by rw [hX];exact Z1 J J))) ?_;refine dV 6 [7,8,9,10,11,12] ?_;refine dV 7 [8,9,10,11,12] ?_;refine dV 8 [9,10,11,12] ?_;refine dV 9 [10,11,12] ?_;refine d9 10 J [11,12] (u9 J) (jk J J jj J (Zk [.int .i64 X.e.ax, .int .i64 X.e.ay] 0 (fun w hs=>Qc hr hs.fin) hlS Om (by rw [hX];exact Z1 J J))) ?_;refine d9 11 J [12] (u9 J) (J0 J J (vS J J)) ?_;refine J8 (i:=12) J Dc Kr J ?_;refine Jw J J (wq J) J (lb J) (fun b3=> ?_);refine n9 ?_;refine JU (u9 J) ?_;refine KB J Kr J ?_;refine JV (k:=0) J j5 QA Dc J Dc J J J (fun w' hs=>qR hs (k:=1) J J) (by simp [Value.oneCell']) (by unfold maxLen;omega) Om (jgx _) (fun r2=> ?_);refine n9 ?_;refine JS 15 ?_;refine dK 14 ?_;refine JI Kr ?_;refine S8 ?_
      exact j4 hL1 ((i+1,r2)) ((show i+1≤NL.length by omega)) (by simp only;omega) ⟨(by rw [hst,Oq,if_neg (by rw [c2];simp),if_pos c3,jgv];rfl),vi Om,sz⟩ (fun _ h=>h.upto ⟨by rw [hst,Oq,if_neg (by rw [c2];simp),if_pos c3,jgv,jgG];rfl,trivial⟩)
     ·refine S9 ?_
      exact j4 hL1 ((i+1,rA,rc)) ((show i+1≤NL.length by omega)) (by simp only;omega) ⟨(by rw [hst,Oq,if_neg (by rw [c2];simp),if_neg (by rw [c3];simp),jgW];rfl),vi Om,sz⟩ (fun _ h=>h.upto ⟨by rw [hst,Oq,if_neg (by rw [c2];simp),if_neg (by rw [c3];simp),jgW],trivial⟩)
 ·have hik:i=NL.length:=Om
  rw [hik]
  refine S11 ?_;refine jL J (.tmp J) ?_
  intro w' hs
  have hr2:=hs.all 0 _ rfl
  exact⟨_,rfl,KN hr2.1 (fun b hb=> (hr2.2.1 b hb).elim id (fun h=>by cases h)),hs.fin⟩
end Go.Proofs.YtbahojdbmmjkcaaGreat
namespace Go.Proofs.YtbahojdbmmjkcaaGreat
open Go Go.RowKit
variable {es:List (Pn×Pn)} {rs:List jK}
theorem jbs {z:Pn} (h1:Lk es z) (h2:∀e,es.head?=some e→e.1=z) :vz (es.map (·.1)) =es:=by
 obtain ⟨g1,g2⟩ :=jaM h1
 have hp:∀j (hj:j<es.length),pt (es.map (·.1)) j=es[j].1:=fun j hj=>by
  rw [←Kl (by simpa using hj)]
  simp
 refine jhH (by simp [vz]) fun j hj hj'=> ?_
 simp only [vz,jhx,jhY]
 refine Prod.ext (hp j hj') ?_
 show pt (es.map (·.1)) (nx (es.map (·.1)) j) =_
 by_cases hj1:j+1<es.length
 ·rw [show nx (es.map (·.1)) j=j+1 from jhM (by simpa using hj1),hp _ hj1,←g1 j hj1]
 ·have hk:0<es.length:=by omega
  rw [show nx (es.map (·.1)) j=0 by unfold nx;rw [jgF,show j+1=es.length by omega,Nat.mod_self],hp 0 hk]
  have hz: (es[0]'hk).1=z:=h2 _ (by cases es with | nil=>simp at hk | cons a l=>rfl)
  have:es.length- 1=j:=by omega
  rw [hz,←g2 hk]
  simp only [this]
theorem SI {xs:List Pn} (h0:0<xs.length) (hk:0< (KT xs).length) :Jy (KT xs) =Jy xs:=by
 obtain ⟨h1,h2⟩ :=Bn h0
 have e:KT xs= ((Jy xs).map Tc).map (·.1) :=by rw [List.map_map];rfl
 rw [vW (Bw h0 hk),e,jbs h1 h2,List.map_map]
 conv=>rhs;rw [←List.map_id (Jy xs)]
 rfl
theorem O5 (rs ss:List jK) :∀k,k≤rs.length→qW (rs++ss) k=qW rs k
 | 0,_=>rfl
 | k+1,hk=>by
  show qW (rs++ss) k++Jy (rg (rs++ss) k) =qW rs k++Jy (rg rs k)
  rw [O5 rs ss k Om]
  congr 2
  simp only [rg,List.getD_eq_getElem?_getD,List.getElem?_append_left (show k<rs.length by omega)]
theorem Lw (rs ss:List jK) :∀k,qW (rs++ss) (rs.length+k) =Jx rs++qW ss k
 | 0=>by
  rw [jhV,O5 rs ss _ (jgx _)]
  exact(jgW _).symm
 | k+1=>by
  show qW (rs++ss) (rs.length+k) ++Jy (rg (rs++ss) (rs.length+k)) =Jx rs++ (qW ss k++Jy (rg ss k))
  rw [Lw rs ss k,jgB]
  congr 3
  simp only [rg,List.getD_eq_getElem?_getD,List.getElem?_append_right (Nat.le_add_right _ _),Nat.add_sub_cancel_left]
theorem yD (rs ss:List jK) :Jx (rs++ss) =Jx rs++Jx ss:=by
 unfold Jx
 rw [jgv]
 exact Lw rs ss _
theorem DL (r:jK) :Jx [r] =Jy r:=rfl
theorem xb {rs:List jK} (hr:JW rs=true) :∀k,k≤rs.length→Jx (KY rs k) =qW rs k
 | 0,_=>rfl
 | k+1,hk=>by
  have ih:=xb hr k Om
  have hp:=qS (vN hr (show k<rs.length by omega))
  show _=qW rs k++Jy (rg rs k)
  by_cases h:0< (KT (rg rs k)).length
  ·rw [yt Om h,yD,ih,DL,SI hp.1 h]
  ·rw [zv Om h,ih]
   have e: (Jy (rg rs k)).length= (KT (rg rs k)).length:= (jgF ..).symm
   rw [jgX (show(Jy (rg rs k)).length=0 by omega),jgW]
theorem Vp (hr:JW rs=true) :Jx (qb rs) =Jx rs:=xb hr _ (jgx _)
def Hu (rs:List jK) :List jK:=if JW rs=true then rs else []
def LT (rs:List jK) :Int:=if JW rs=true then 0 else 5
theorem SL (rs:List jK) :smallR (Hu rs) :=by
 unfold Hu
 split
 ·exact smallR.of (by assumption)
 ·exact smallR.nil
theorem jap {E:List Leg} (hE:∀l∈E,qr l) (hl:E.length≤400) {ss:List jK} (hr:JW ss=true) (hb:∀r∈ss,bare r) (hs:∀l∈Jx ss,l∈E) :HotOk (jc3 E) ss:=by
 have hends:∀l∈E,lA l∈jc3 E:=fun l hl=>by
  obtain ⟨k,hk,e⟩ :=jg1 hl
  have:= (Rb (E:=E) _ (jgx _) k hk).1
  rw [je1 hk,e] at this
  exact(yQ _ _).2 this
 refine⟨hr,fun p hp=>yu (Nr hE _ (jgx _) p ((yQ _ _).1 hp)),ZW _,PY (ZW _),?_,fun r h=>⟨hb r h,fun p hp=> ?_⟩⟩
 ·have h1:=ZX (Yr E E.length)
  have h2:=zD E E.length
  have h3:E.length* (E.length+2)≤400*402:=Nat.mul_le_mul hl Om
  unfold jc3
  omega
 ·have hbr:=hb r h
  have hp2:p∈(Jy r).map lA:=by
   rw [vW hbr,List.map_map]
   have e2: (vz r).map (lA∘mkL) = (vz r).map (·.1) :=rfl
   rw [e2,BU]
   exact hp
  obtain ⟨l,hl,rfl⟩ :=jgO.1 hp2
  exact hends l (hs l (zF.2 ⟨r,h,hl⟩))
structure CmOk (rs ss:List jK) :Prop where
 r1:JW rs=true
 r2:JW ss=true
 len: (Jx rs++Jx ss).length≤400
def F6 (rs ss:List jK) :List Leg:=Jx rs++Jx ss
def YM (rs ss:List jK) :List Pn:=jc3 (F6 rs ss)
def YL (rs ss:List jK) :List jK:=Sd (YM rs ss) (qb rs)
def yz (rs ss:List jK) :List jK:=Sd (YM rs ss) (qb ss)
def W6 (rs ss:List jK) :Bool:=Fq9 (YM rs ss) (qb rs)
def UI (rs ss:List jK) :Bool:=Fq9 (YM rs ss) (qb ss)
def Kh (rs ss:List jK) (how:Int) :List Leg:=vj (Jx (YL rs ss)) (Jx (yz rs ss)) how
def vx (rs ss:List jK) (how:Int) :List jK:=Wb (Kh rs ss how)
section
variable {rs ss:List jK}
theorem CmOk.legs (h:CmOk rs ss) :∀l∈F6 rs ss,qr l:=fun l hl=> (jgL.1 hl).elim (jbN h.r1 l) (jbN h.r2 l)
theorem CmOk.hot1 (h:CmOk rs ss) :HotOk (YM rs ss) (qb rs) :=jap h.legs h.len (yr h.r1) (YC h.r1) fun l hl=>jht _ (by rwa [Vp h.r1] at hl)
theorem CmOk.hot2 (h:CmOk rs ss) :HotOk (YM rs ss) (qb ss) :=jap h.legs h.len (yr h.r2) (YC h.r2) fun l hl=>jh1 _ (by rwa [Vp h.r2] at hl)
theorem G3 {hot:List Pn} (hk:HotOk hot rs) (h:Fq9 hot rs=true) :JW (Sd hot rs) =true∧qY hot (Sd hot rs) =Sd hot rs∧∃n,Sd hot rs=Re hot n rs:=by
 cases hs:M3 hot rs with
 | none=>rw [(FT hs).2.2] at h;cases h
 | some x=>
  obtain ⟨s,r⟩ :=x
  rw [(FU hs).1]
  exact⟨jce hk.nd hk.reg hk.bare hs,PJ _ hs⟩
theorem CmOk.pair (h:CmOk rs ss) (ha:W6 rs ss=true) (hb:UI rs ss=true) :TZ (Jx (YL rs ss) ++Jx (yz rs ss)) :=by
 have k1:=h.hot1
 have k2:=h.hot2
 obtain ⟨_,f1,n1,i1⟩ :=G3 k1 ha
 obtain ⟨_,f2,n2,i2⟩ :=G3 k2 hb
 have e1:Re (YM rs ss) (n1+n2) (qb rs) =YL rs ss:=by rw [DW,←i1,DX f1];rfl
 have e2:Re (YM rs ss) (n1+n2) (qb ss) =yz rs ss:=by rw [Nat.add_comm,DW,←i2,DX f2];rfl
 have e:Re (YM rs ss) (n1+n2) (qb rs++qb ss) =YL rs ss++yz rs ss:=by rw [Nv,e1,e2]
 have hb0:bareG (YM rs ss) (qb rs++qb ss) :=fun r hr=> (jgL.1 hr).elim (k1.bare r) (k2.bare r)
 have he0:Jx (qb rs++qb ss) =F6 rs ss:=by rw [yD,Vp h.r1,Vp h.r2];rfl
 have hi:=Nw k1.nd (n1+n2) _ hb0 (by rw [he0];exact Ck fun p hp=> (yQ _ _).2 hp)
 rw [e] at hi
 have hfix:qY (YM rs ss) (YL rs ss++yz rs ss) =YL rs ss++yz rs ss:=by
  unfold qY at*
  rw [jgS]
  have a: (YL rs ss).map (Km (YM rs ss)) =YL rs ss:=f1
  have b: (yz rs ss).map (Km (YM rs ss)) =yz rs ss:=f2
  rw [a,b]
 have hx:=Rd k1.nd hi.1 hi.2
 rw [hfix] at hx
 intro x hx1 y hy1
 rw [←yD] at hx1 hy1
 exact Ed hi.1 hfix hx (fun p hp=>yM (k1.ok p hp)) hx1 hy1
theorem CmOk.two (h:CmOk rs ss) (ha:W6 rs ss=true) (hb:UI rs ss=true) :TwoE (Jx (YL rs ss)) (Jx (yz rs ss)) :=by
 obtain ⟨r1,_⟩ :=G3 h.hot1 ha
 obtain ⟨r2,_⟩ :=G3 h.hot2 hb
 have g1:=xm r1
 have g2:=xm r2
 exact⟨g1.ok,g2.ok,g1.ne,g2.ne,Gj r1,Gj r2⟩
theorem CmOk.okT (h:CmOk rs ss) (ha:W6 rs ss=true) (hb:UI rs ss=true) (how:Int) :okRs (vx rs ss how) :=by
 have hB:BoOk (Kh rs ss how) :=Zu (h.two ha hb)
 have hl:=hB.len
 obtain ⟨h1,h2⟩ :=yh (B:=Kh rs ss how) _ (jgx _)
 refine⟨by unfold vx Wb;omega,fun r hr=> ?_⟩
 obtain ⟨g1,g2,g3⟩ :=h2 r hr
 refine⟨g1,by omega,fun p hp=> ?_⟩
 obtain ⟨j,hj,rfl⟩ :=g3 p hp
 exact(VR (QK hB.ok hj)).wide
end
def LV (how:Int) :Bool:=decide (1≤how) &&decide (how≤4)
def XK (rs ss:List jK) :Bool:=JW rs&&JW ss
def Zb (rs ss:List jK) :Bool:=decide ((Jx rs++Jx ss).length≤400) && (W6 rs ss&&UI rs ss)
def Sq (rs ss:List jK) (how:Int) :List jK:=if Zb rs ss=true then Hu (wX (vx rs ss how)) else []
def coC (rs ss:List jK) (how:Int) :Int:=if Zb rs ss=true then LT (wX (vx rs ss how)) else 5
def UV (rs ss:List jK) (how:Int) :List jK:=if XK rs ss=true then(if LV how=true then Sq rs ss how else []) else []
def Bd (rs ss:List jK) (how:Int) :Int:=if XK rs ss=true then(if LV how=true then coC rs ss how else 2) else 1
theorem Cb (rs ss:List jK) (how:Int) :smallR (Sq rs ss how) :=by
 unfold Sq
 split
 ·exact SL _
 ·exact smallR.nil
theorem Be (rs ss:List jK) (how:Int) :smallR (UV rs ss how) :=by
 unfold UV
 split
 ·split
  ·exact Cb ..
  ·exact smallR.nil
 ·exact smallR.nil
end Go.Proofs.YtbahojdbmmjkcaaGreat
