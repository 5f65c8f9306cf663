import Derived.Test.YtbahojdbmmjkcaaGreatMBrd
set_option linter.unusedVariables false
set_option linter.unusedSimpArgs false
namespace Go.Proofs.YtbahojdbmmjkcaaGreat
open Go Go.RowKit
variable {E1 E2 es:List Leg} {how:Int}
set_option maxRecDepth 100000
set_option maxHeartbeats 4000000
theorem jfE {o p q:Pn} (hp:p≠o) (hq:q≠o) (h:UB o p q) :WW o q p=true∨WW o p q=true:=by
 obtain ⟨ht,hd⟩ :=h
 have ht':tn o q p=0:=by rw [MX];omega
 by_cases h1:WW o q p=true
 ·exact .inl h1
 by_cases h2:WW o p q=true
 ·exact .inr h2
 exfalso
 obtain ⟨m,n,hm,hn,e1,e2⟩ :=HQ (Ne.symm hq) ht' h1
 obtain ⟨m',n',hm',hn',e1',e2'⟩ :=HQ (Ne.symm hp) ht h2
 have hne:p.1- o.1≠0∨p.2- o.2≠0:=by
  by_cases k:p.1- o.1=0
  ·exact .inr fun k2=>hp (Prod.ext Om Om)
  ·exact .inl k
 have hne':q.1- o.1≠0∨q.2- o.2≠0:=by
  by_cases k:q.1- o.1=0
  ·exact .inr fun k2=>hq (Prod.ext Om Om)
  ·exact .inl k
 have hP:0< (p.1- o.1) * (p.1- o.1) + (p.2- o.2) * (p.2- o.2) :=by
  have s1:=Kc (a:=p.1- o.1) (b:=p.1- o.1) rfl
  have s2:=Kc (a:=p.2- o.2) (b:=p.2- o.2) rfl
  omega
 have hQ:0< (q.1- o.1) * (q.1- o.1) + (q.2- o.2) * (q.2- o.2) :=by
  have s1:=Kc (a:=q.1- o.1) (b:=q.1- o.1) rfl
  have s2:=Kc (a:=q.2- o.2) (b:=q.2- o.2) rfl
  omega
 have f1:n* (q.1- o.1) = (n- m) * (p.1- o.1) :=by
  have:n* (q.1- o.1) =n* (q.1- p.1) +n* (p.1- o.1) :=by grind
  rw [this,←e1];grind
 have f2:n* (q.2- o.2) = (n- m) * (p.2- o.2) :=by
  have:n* (q.2- o.2) =n* (q.2- p.2) +n* (p.2- o.2) :=by grind
  rw [this,←e2];grind
 have f1':n'* (p.1- o.1) = (n'- m') * (q.1- o.1) :=by
  have:n'* (p.1- o.1) =n'* (p.1- q.1) +n'* (q.1- o.1) :=by grind
  rw [this,←e1'];grind
 have f2':n'* (p.2- o.2) = (n'- m') * (q.2- o.2) :=by
  have:n'* (p.2- o.2) =n'* (p.2- q.2) +n'* (q.2- o.2) :=by grind
  rw [this,←e2'];grind
 generalize p.1- o.1=p1 at*
 generalize p.2- o.2=p2 at*
 generalize q.1- o.1=q1 at*
 generalize q.2- o.2=q2 at*
 have g1:n* (q1*q1+q2*q2) = (n- m) * (p1*q1+p2*q2) :=by
  have:n* (q1*q1+q2*q2) =q1* (n*q1) +q2* (n*q2) :=by grind
  rw [this,f1,f2];grind
 have g2:n'* (p1*p1+p2*p2) = (n'- m') * (p1*q1+p2*q2) :=by
  have:n'* (p1*p1+p2*p2) =p1* (n'*p1) +p2* (n'*p2) :=by grind
  rw [this,f1',f2'];grind
 have k1:=jjZ hn hQ
 have k2:=jjZ hn' hP
 have s1:=Kc (a:=n- m) (b:=p1*q1+p2*q2) rfl
 have s2:=Kc (a:=n'- m') (b:=p1*q1+p2*q2) rfl
 have a1:0<n- m:=by omega
 have a2:0<n'- m':=by omega
 have g3:n*n'* (p1*p1+p2*p2) = (n- m) * (n'- m') * (p1*p1+p2*p2) :=by
  have x1:n*n'* (p1*p1+p2*p2) =p1* (n* (n'*p1)) +p2* (n* (n'*p2)) :=by grind
  rw [x1,f1',f2']
  have x2:p1* (n* ((n'- m') *q1)) +p2* (n* ((n'- m') *q2)) = (n'- m') * (p1* (n*q1) +p2* (n*q2)) :=by grind
  rw [x2,f1,f2]
  grind
 have b1: (n- m) * (n'- m')≤(n- m) *n':=jjM Om Om
 have b2: (n- m) *n'<n*n':=jjE Om hn'
 have b3:=jjE (show(n- m) * (n'- m') <n*n' by omega) hP
 omega
theorem C1 {a b c d o p q:Pn} (h:VG a b c d=true) (h1: (a=o∧b=p)∨(a=p∧b=o)) (h2: (c=o∧d=q)∨(c=q∧d=o)) (hp:p≠o) (hq:q≠o) (hs:UB o p q) :p=q:=Decidable.byContradiction fun hpq=>by
 have ona:∀x,WW o p x=true→WW a b x=true:=fun x hx=>by
  rcases h1 with⟨rfl,rfl⟩ |⟨rfl,rfl⟩
  ·exact hx
  ·rw [Tx];exact hx
 have onc:∀x,WW o q x=true→WW c d x=true:=fun x hx=>by
  rcases h2 with⟨rfl,rfl⟩ |⟨rfl,rfl⟩
  ·exact hx
  ·rw [Tx];exact hx
 have mem:∀x,x=o∨x=p∨x=q→WW o p x=true→WW o q x=true→x∈Qk a b c d:=fun x h0 k1 k2=>qL.2 ⟨by
  rcases h1 with⟨rfl,rfl⟩ |⟨rfl,rfl⟩ <;>rcases h2 with⟨rfl,rfl⟩ |⟨rfl,rfl⟩ <;>rcases h0 with rfl | rfl | rfl<;>simp,by
  unfold kd
  rw [ona x k1,onc x k2]
  rfl⟩
 have ho:=mem o (.inl rfl) (wE o p) (wE o q)
 have h3:Qd a b c d=3:=by
  rcases jfE hp hq hs with k | k
  ·exact Hw ho (mem p (.inr (.inl rfl)) (Wm o p) k) (Ne.symm hp)
  ·exact Hw ho (mem q (.inr (.inr rfl)) k (Wm o q)) (Ne.symm hq)
 have hap:KU a b c d=false:=by
  rw [KU]
  simp only [Bool.or_eq_false_iff,decide_eq_false_iff_not]
  rcases h1 with⟨rfl,rfl⟩ |⟨rfl,rfl⟩ <;>rcases h2 with⟨rfl,rfl⟩ |⟨rfl,rfl⟩ <;>omega
 unfold VG at h
 rw [hap,h3] at h
 simp only [jkm,if_false,show¬((3:Int) =2) by omega,show¬((3:Int) =1) by omega,if_true,decide_eq_true_eq] at h
 rcases h1 with⟨rfl,rfl⟩ |⟨rfl,rfl⟩ <;>rcases h2 with⟨rfl,rfl⟩ |⟨rfl,rfl⟩ <;>rcases h with⟨k1,k2⟩ |⟨k1,k2⟩ <;>first | exact hpq k1 | exact hpq k2 | exact hpq k1.symm | exact hpq k2.symm | exact hp k1 | exact hp k2 | exact hq k1 | exact hq k2 | exact hp k1.symm | exact hq k2.symm | exact hp k2.symm | exact hq k1.symm
def XA (E:List Leg) :Prop:=∀e∈E,∀f∈E,VG (lA e) (lB e) (lA f) (lB f) =true
theorem jgd {p l:Leg} {a b:Bool} (h:l∈zK p a b) :l=p∨l=ku p:=by
 unfold zK at h
 split at h
 ·exact .inl (jjp.1 h)
 ·split at h
  ·exact .inr (jjp.1 h)
  ·cases h
theorem jfq {p:Leg} (h:Key es p) :Q3 p=p∧Q3 (ku p) =p:=by
 have h1:Q3 p=p:=by unfold Q3;rw [if_neg h.ord]
 exact⟨h1,by rw [ML h.ne,h1]⟩
theorem MC (hE:TwoE E1 E2) {l:Leg} (h:l∈vH E1 E2 how) :∃e∈E1++E2,(l=e∨l=ku e) :=by
 unfold vH xG at h
 rw [jj3] at h
 obtain ⟨p,hp,hl⟩ :=jkO.1 h
 obtain ⟨_,e,he,h2⟩ :=ZY hE.ok hE.ne hp
 refine⟨e,he,?_⟩
 have hn:p=e∨p=ku e:=by rw [h2];unfold Q3;split<;>simp
 rcases jgd hl with rfl | rfl<;>rcases hn with rfl | rfl
 ·exact .inl rfl
 ·exact .inr rfl
 ·exact .inr rfl
 ·exact .inl (FG e)
theorem xV (es:List Leg) : (Ko es).Nodup:=by
 have ha:Xy (Qe false es []) :=Wq List.Pairwise.nil
 rw [Ko]
 exact List.Pairwise.imp (fun {a b} (h:xw a b) (e:a=b) =>vE a (by rw [←e] at h;exact h)) (List.pairwise_map.2 ha)
theorem jad (hE:TwoE E1 E2) : ((vH E1 E2 how).map Q3).Nodup:=by
 have key:∀ks:List Leg,(∀p∈ks,Key (E1++E2) p)→((ks.flatMap fun p=>zK p (Qg (kZ E1 p).left (kZ E2 p).left how) (Qg (kZ E1 p).right (kZ E2 p).right how)).map Q3).Sublist ks:=by
  intro ks
  induction ks with
  | nil=>intro _;exact List.Sublist.slnil
  | cons p ks ih=>
   intro hk
   rw [jjH,jjQ]
   have h1:=jfq (hk p (jjJ ..))
   have h2:=ih fun q hq=>hk q (jjs _ hq)
   unfold zK
   split
   ·simp only [jjF,jjS,h1.1,jjN,jj2]
    exact h2.cons_cons p
   ·split
    ·simp only [jjF,jjS,h1.2,jjN,jj2]
     exact h2.cons_cons p
    ·exact h2.cons p
 unfold vH xG
 rw [jj3]
 exact(xV _).sublist (key _ fun p hp=> (ZY hE.ok hE.ne hp).1)
theorem xJ (hE:TwoE E1 E2) :BoOk (vH E1 E2 how) :=by
 refine⟨fun l hl=> ?_,?_⟩
 ·obtain ⟨e,he,h | h⟩ :=MC hE hl
  ·rw [h];exact hE.ok e he
  ·rw [h]
   have:=hE.ok e he
   exact⟨this.2.2.1,this.2.2.2,this.1,this.2.1⟩
 ·have h1:=Of (E1:=E1) (E2:=E2) (how:=how) (ks:=Ko (E1++E2)) _ (jjm _)
  have h2:=SV (es:=E1++E2)
  have h3:=hE.lnE
  have h4:=hE.lnF
  rw [jjk] at h2
  unfold vH
  omega
theorem Og (hE:TwoE E1 E2) (hP:XA (E1++E2)) :TrOk (vH E1 E2 how) :=by
 have hnd:=jad (how:=how) hE
 have hin:∀i,i< (vH E1 E2 how).length→lg (vH E1 E2 how) i∈vH E1 E2 how:=fun i hi=>by rw [←ye hi];exact jju hi
 have hne:∀i,i< (vH E1 E2 how).length→lA (lg (vH E1 E2 how) i)≠lB (lg (vH E1 E2 how) i) :=fun i hi=>by
  obtain ⟨e,he,h | h⟩ :=MC hE (hin i hi)
  ·rw [h];exact hE.ne e he
  ·rw [h];exact fun k=>hE.ne e he k.symm
 have inj:∀i j,i< (vH E1 E2 how).length→j< (vH E1 E2 how).length→Q3 (lg (vH E1 E2 how) i) =Q3 (lg (vH E1 E2 how) j)→i=j:=fun i j hi hj h=>by
  have h1: ((vH E1 E2 how).map Q3)[i]'(by simpa using hi) = ((vH E1 E2 how).map Q3)[j]'(by simpa using hj) :=by
   rw [jkx,jkx,ye hi,ye hj];exact h
  exact(List.getElem_inj hnd).1 h1
 have ends:∀i,i< (vH E1 E2 how).length→∃e∈E1++E2,(lA e=lA (lg (vH E1 E2 how) i)∧lB e=lB (lg (vH E1 E2 how) i))∨(lA e=lB (lg (vH E1 E2 how) i)∧lB e=lA (lg (vH E1 E2 how) i)) :=fun i hi=>by
  obtain ⟨e,he,h | h⟩ :=MC hE (hin i hi)
  ·exact⟨e,he, .inl ⟨by rw [h],by rw [h]⟩⟩
  ·exact⟨e,he, .inr ⟨by rw [h];rfl,by rw [h];rfl⟩⟩
 refine⟨hne,fun i j hi hj hij hv hs=> ?_,fun i j hi hj hv hs=> ?_⟩
 ·obtain ⟨e,he,k1⟩ :=ends i hi
  obtain ⟨f,hf,k2⟩ :=ends j hj
  have:=C1 (hP e he f hf) (o:=lA (lg (vH E1 E2 how) i)) (p:=lB (lg (vH E1 E2 how) i)) (q:=lB (lg (vH E1 E2 how) j)) k1 (by rw [hv];exact k2) (Ne.symm (hne i hi)) (by rw [hv];exact Ne.symm (hne j hj)) hs
  exact hij (inj i j hi hj (by rw [YR hv this]))
 ·obtain ⟨e,he,k1⟩ :=ends j hj
  obtain ⟨f,hf,k2⟩ :=ends i hi
  have:=C1 (hP e he f hf) (o:=lB (lg (vH E1 E2 how) i)) (p:=lB (lg (vH E1 E2 how) j)) (q:=lA (lg (vH E1 E2 how) i)) (by rw [←hv];exact k1) (k2.symm) (by rw [←hv];exact Ne.symm (hne j hj)) (hne i hi) hs
  have hr:lg (vH E1 E2 how) j=ku (lg (vH E1 E2 how) i) :=YR hv this
  have:=inj j i hj hi (by rw [hr,ML (hne i hi)])
  subst this
  exact hne j hj (by rw [hv])
def VY (E1 E2:List Leg) :List Nt:=Qe true E2 (Qe false E1 [])
theorem Rr (E1 E2:List Leg) :Xy (VY E1 E2) :=Wq (Wq List.Pairwise.nil)
theorem BU (E1 E2:List Leg) : (VY E1 E2).map (·.e) =Ko (E1++E2) :=by
 have h2:Xy (Qe false (E1++E2) []) :=Wq List.Pairwise.nil
 refine zP (List.pairwise_map.2 (Rr E1 E2)) (List.pairwise_map.2 h2) fun q=> ?_
 simp only [Ko,jjx]
 rw [show(∃a,a∈VY E1 E2∧a.e=q)↔_ from Ws,show(∃a,a∈Qe false (E1++E2) []∧a.e=q)↔_ from Ws,Ws]
 simp only [jj8,false_and,exists_false,false_or,jjz]
 constructor
 ·rintro(⟨e,h1,h2⟩ |⟨e,h1,h2⟩)
  ·exact⟨e, .inl h1,h2⟩
  ·exact⟨e, .inr h1,h2⟩
 ·rintro⟨e,h1 | h1,h2⟩
  ·exact .inl ⟨e,h1,h2⟩
  ·exact .inr ⟨e,h1,h2⟩
theorem jh4 (E1 E2:List Leg) (F:Leg→Int) :wS false F (VY E1 E2) =sm (fun e=>sg e*F (Q3 e)) E1:=by
 rw [VY,zN,zN]
 simp [wS,sm]
theorem jh5 (E1 E2:List Leg) (F:Leg→Int) :wS true F (VY E1 E2) =sm (fun e=>sg e*F (Q3 e)) E2:=by
 rw [VY,zN,zN]
 simp [wS,sm]
theorem Oj {E:List Leg} (hsub:∀e∈es,e∈E) (hne:∀l∈E,lA l≠lB l) (hP:XA E) {e0:Leg} (he0:e0∈E) :RJ es (Q3 e0) :=by
 intro hl e he hn
 have he:=hsub e he
 have hne1:=hne e he
 have hne0:=hne e0 he0
 obtain ⟨m1,m2,m3⟩ :=jfy e0
 have hn':¬((lA e0=lA e∧lB e0=lB e)∨(lA e0=lB e∧lB e0=lA e)) :=by
  rintro(⟨h1,h2⟩ |⟨h1,h2⟩)
  ·exact hn (by rw [YR h1 h2])
  ·have:e=ku e0:=YR (by rw [←h2];rfl) (by rw [←h1];rfl)
   exact hn (by rw [this,ML hne0])
 have hl0:e0.ay=e0.b_y:=m3.1 hl
 have:=jfz (a:=lA e0) (b:=lB e0) (c:=lA e) (d:=lB e) hl0 (fun h=>hne0 (Prod.ext h hl0)) hne1 hn' (hP e0 he0 e he)
 rw [m1,m2]
 exact this
theorem jcq {s:Bool} {l:List Nt} (ha:Xy l) (hw:∀F:Leg→Int,wS s F l=sm (fun e=>sg e*F (Q3 e)) es) (hf:Fine es) {k:Nat} (hk:k<l.length) (hc:RJ es (nt l k).e) (hkey:Key es (nt l k).e) :
  kZ es (nt l k).e=⟨(nt l k).e,V6 s (nt l k),QG s l k l.length+V6 s (nt l k),QG s l k l.length⟩ :=by
 have h1:V6 s (nt l k) =Qo es (nt l k).e:=by
  have:=jgR (s:=s) ha (Hz hk)
  rw [←this]
  generalize (nt l k).e=p
  rw [hw]
  exact J0 fun e _=>by split<;>simp
 have h2:QG s l k l.length=I4 es (nt l k).e:=by
  rw [E8 ha hk]
  generalize (nt l k).e=p
  rw [hw]
  rfl
 rw [jdQ hf hc hkey.ord hkey.ne,h1,h2]
def G8 (L:List Nt) (how:Int) (i:Nat) :List Leg:= (L.take i).flatMap fun x=>zK x.e (Qg x.l1 x.l2 how) (Qg (x.l1- x.one) (x.l2- x.two) how)
theorem G9 {L:List Nt} {i:Nat} (h:i<L.length) :G8 L how (i+1) =G8 L how i++zK (nt L i).e (Qg (nt L i).l1 (nt L i).l2 how) (Qg ((nt L i).l1- (nt L i).one) ((nt L i).l2- (nt L i).two) how) :=by
 rw [G8,jjt h,jjv,zQ h]
 simp [G8]
theorem Sb {L:List Nt} {how:Int} :∀i,i≤L.length→(G8 L how i).length≤i
 | 0,_=>by simp [G8]
 | i+1,h=>by
  have:=Sb (L:=L) (how:=how) i Om
  have h1:=Et (nt L i).e (Qg (nt L i).l1 (nt L i).l2 how) (Qg ((nt L i).l1- (nt L i).one) ((nt L i).l2- (nt L i).two) how)
  rw [G9 Om,jjk]
  omega
theorem jbU (hE:TwoE E1 E2) (f1:Fine E1) (f2:Fine E2) (hP:XA (E1++E2)) :G8 (Uy (VY E1 E2)) how (VY E1 E2).length=vH E1 E2 how:=by
 have hkl: (Ko (E1++E2)).length= (VY E1 E2).length:=by rw [←BU,jjB]
 have key:∀i,i≤(VY E1 E2).length→G8 (Uy (VY E1 E2)) how i=xG E1 E2 how (Ko (E1++E2)) i:=by
  intro i
  induction i with
  | zero=>intro _;rfl
  | succ i ih=>
   intro hi
   have hik:i< (Ko (E1++E2)).length:=by omega
   have hnt:=EB (l:=VY E1 E2) (k:=i) Om
   have hlg:lg (Ko (E1++E2)) i= (nt (VY E1 E2) i).e:=by
    rw [←BU]
    have hi':i< (VY E1 E2).length:=by omega
    simp [lg,nt,List.getD,hi']
   obtain ⟨hkey,e0,he0,hp⟩ :=ZY hE.ok hE.ne (p:=lg (Ko (E1++E2)) i) (by rw [←ye hik];exact jju hik)
   have hc1:RJ E1 (nt (VY E1 E2) i).e:=by rw [←hlg,hp];exact Oj (fun e he=>jka _ he) hE.ne hP he0
   have hc2:RJ E2 (nt (VY E1 E2) i).e:=by rw [←hlg,hp];exact Oj (fun e he=>jkw _ he) hE.ne hP he0
   have k1:Key E1 (nt (VY E1 E2) i).e:=by rw [←hlg];exact⟨hkey.ok,hkey.ne,hkey.ord⟩
   have k2:Key E2 (nt (VY E1 E2) i).e:=by rw [←hlg];exact⟨hkey.ok,hkey.ne,hkey.ord⟩
   have n1:=jcq (Rr E1 E2) (jh4 E1 E2) f1 (k:=i) Om hc1 k1
   have n2:=jcq (Rr E1 E2) (jh5 E1 E2) f2 (k:=i) Om hc2 k2
   rw [G9 (by rw [TU];omega),G7 hik,ih Om,hnt,hlg,n1,n2]
   simp only [sdN,V6,jkm,if_false,if_true]
   rw [show QG false (VY E1 E2) i (VY E1 E2).length+ (nt (VY E1 E2) i).one- (nt (VY E1 E2) i).one=QG false (VY E1 E2) i (VY E1 E2).length by omega,
    show QG true (VY E1 E2) i (VY E1 E2).length+ (nt (VY E1 E2) i).two- (nt (VY E1 E2) i).two=QG true (VY E1 E2) i (VY E1 E2).length by omega]
 rw [key _ (jjm _),vH,hkl]
theorem jgu (E1 E2:List Leg) : (VY E1 E2).length≤E1.length+E2.length:=by
 have h1:=uA (s:=true) E2 (Qe false E1 [])
 have h2:=uA (s:=false) E1 []
 rw [VY]
 simp only [jjK] at h2
 omega
theorem jiR (E1 E2:List Leg) (t:Bool) :aS t (VY E1 E2)≤E1.length+E2.length:=by
 have h1:=zM (s:=true) (t:=t) E2 (Qe false E1 [])
 have h2:=zM (s:=false) (t:=t) E1 []
 rw [jbv] at h2
 rw [VY]
 split at h1<;>split at h2<;>omega
theorem Dx (NL:List Nt) (x:Option Addr×Nat) (how:Int) (w:World) (hr: (J3 0 262 8 NL.length ((Uy NL).flatMap qo) x).P w) (hl:NL.length≤4096) (ha:∀t,aS t NL≤16384) :
  Calls Tryz.prog 190 #[.slice x.1 NL.length x.2, .int .i64 how] w fun e w'=>∃v,e= .returned v∧w'.ownsRow w.heap.size 147 4 v (G8 (Uy NL) how NL.length).length ((G8 (Uy NL) how NL.length).flatMap Ji)∧Over w w':=by
 have hsl:=TU NL
 refine j6 (m:=84) (Tryz.func190) J J (lb J) ?_;refine S7 ?_;refine Jy J J (zG) J (lb J) (fun b1=> ?_);refine Wi 0 4 J J ?_;refine N8 ?_;refine JX (X:=Nat×Option Addr×Nat) (fun y=>y.1≤NL.length) (fun y=>NL.length- y.1) (fun y=> [(5, .slice y.2.1 (G8 (Uy NL) how y.1).length y.2.2),(6, .int .i64 (y.1:Int))]) (kK [0,1,4]) (fun y=> [J3 (Bs.N ⟨w,[]⟩) 147 4 (G8 (Uy NL) how y.1).length ((G8 (Uy NL) how y.1).flatMap Ji) y.2]) (0,some ⟨b1,0,none⟩,0) (jjo _) ⟨J,sz⟩ (fun _ h=>h) ?_
 intro⟨i,rA,rc⟩ hi L hL1
 refine v9 ?_;refine r9 ?_
 have hi:i≤NL.length:=hi
 have hbl:=Sb (L:=Uy NL) (how:=how) i Om
 refine S8 ?_;refine cZ (fun c1=> ?_) (fun c1=> ?_)
 ·have hlt:i<NL.length:=Om
  have hlS:i< (Uy NL).length:=Om
  have hst:=G9 (how:=how) hlS
  have hnt:=EB hlt
  have hd1:=yW (s:=false) (k:=i) (jjm NL.length)
  have hd2:=yW (s:=true) (k:=i) (jjm NL.length)
  have hc1:=xL (s:=false) hlt
  have hc2:=xL (s:=true) hlt
  have ha1:=ha false
  have ha2:=ha true
  simp only [V6,if_true,jkm,if_false] at hc1 hc2
  have e1: (sdN NL i).l1=QG false NL i NL.length+ (nt NL i).one:=rfl
  have e2: (sdN NL i).l2=QG true NL i NL.length+ (nt NL i).two:=rfl
  obtain ⟨X,hX⟩ :∃X,X=nt (Uy NL) i:=⟨_,rfl⟩
  have hb1: -40000≤X.l1∧X.l1≤40000:= (by rw [hX,hnt,e1];omega)
  have hb2: -40000≤X.l2∧X.l2≤40000:= (by rw [hX,hnt,e2];omega)
  have hb3: -20000≤X.one∧X.one≤20000:= (by rw [hX,hnt];show-20000≤(nt NL i).one∧(nt NL i).one≤20000;omega)
  have hb4: -20000≤X.two∧X.two≤20000:= (by rw [hX,hnt];show-20000≤(nt NL i).two∧(nt NL i).two≤20000;omega)
  rw [←hX] at hst
  refine S8 ?_;refine a9 (qQ (j:=i) (fun w hs=>Qr hr hs.fin) J J J JI hlt) ?_;refine S4 ?_;refine JS 11 ?_;refine dK 0 ?_;refine dK 1 ?_;refine dK 2 ?_;refine dZ 3 J (jo J J ju (Xj (i:=6) (v:= .int .i64 X.l1) (fun w hs=>Qr hr hs.fin) hlS Om (by rw [hX];rfl))) ?_;refine dK 4 ?_;refine dK 5 ?_;refine dK 6 ?_;refine dZ 7 J (jo J J ju (Xj (i:=7) (v:= .int .i64 X.l2) (fun w hs=>Qr hr hs.fin) hlS Om (by rw [hX];rfl))) ?_;refine dK 8 ?_;refine dZ 9 J (jM yn J J (fun w1 hs=>LC X.l1 X.l2 how w1)) ?_;refine dK 10 ?_;refine JJ Kr ?_;refine S3 ?_;refine JS 21 ?_;refine dK 0 ?_;refine dK 1 ?_;refine dK 2 ?_;refine dZ 3 J (jo J J ju (Xj (i:=6) (v:= .int .i64 X.l1) (fun w hs=>Qr hr hs.fin) hlS Om (by rw [hX];rfl))) ?_;refine dK 4 ?_;refine dK 5 ?_;refine dK 6 ?_;refine dZ 7 J (jo J J ju (Xj (i:=4) (v:= .int .i64 X.one) (fun w hs=>Qr hr hs.fin) hlS Om (by rw [hX];rfl))) ?_;refine dK 8 ?_;refine dK 9 ?_;refine dK 10 ?_;refine dK 11 ?_;refine dZ 12 J (jo J J ju (Xj (i:=7) (v:= .int .i64 X.l2) (fun w hs=>Qr hr hs.fin) hlS Om (by rw [hX];rfl))) ?_;refine dK 13 ?_;refine dK 14 ?_;refine dK 15 ?_;refine dZ 16 J (jo J J ju (Xj (i:=5) (v:= .int .i64 X.two) (fun w hs=>Qr hr hs.fin) hlS Om (by rw [hX];rfl))) ?_;refine dK 17 ?_;refine dK 18 ?_;refine dZ 19 J (jM yn J J (fun w1 hs=>LC (X.l1- X.one) (X.l2- X.two) how w1)) ?_;refine dK 20 ?_;refine JJ Kr ?_
  obtain ⟨lf,hlf⟩ :∃lf,lf=Qg X.l1 X.l2 how:=⟨_,rfl⟩
  obtain ⟨rf,hrf⟩ :∃rf,rf=Qg (X.l1- X.one) (X.l2- X.two) how:=⟨_,rfl⟩
  rw [←hlf,←hrf] at hst
  rw [←hlf,←hrf]
  refine S2 ?_;refine qt [(50, .bool (lf&& !rf))] (kK [0,1,4,5,6,11,12,13,14,17,18,19,7,20,21,22,23,24,25,26,27,28,29,8,30,31,32,33,34,35,36,37,38,39,40,41,42,43,44,45,46,47,48,49,9]) (fun L h_8=> ?_) ?_
  ·refine S3 ?_;refine cV 52 (fun g1=> ?_) (fun g1=> ?_)
   ·refine S7 ?_
    exact Jo h_8 ⟨vb (by rw [g1,jjG]),sz⟩ (u9 J)
   ·refine S5 ?_
    exact Jo h_8 ⟨vb (by rw [g1,jjU]),sz⟩ (u9 J)
  ·refine v9 ?_;refine cZ (fun c2=> ?_) (fun c2=> ?_)
   ·refine S5 ?_;refine a9 (jl J J KT J (xy [.int .i64 X.e.ax, .int .i64 X.e.ay, .int .i64 X.e.bx, .int .i64 X.e.b_y] 0 (fun w hs=>Qr hr hs.fin) hlS Om (by rw [hX];exact MF J J J J))) ?_;refine S1 ?_;refine Jy J J (WG J) J (lb J) (fun b2=> ?_);refine N1 ?_;refine JY (k:=0) J Ju kq Dc J Dc J J J (fun w' hs=>Qb hs (k:=1) J J) (by simp [Value.oneCell']) (by unfold maxLen;omega) Om (jjm _) (fun r1=> ?_);refine N10 ?_
    exact Jq hL1 ((i+1,r1)) ((show i+1≤NL.length by omega)) (by simp only;omega) ⟨(by rw [hst,zK,if_pos c2,jjk];rfl),vi Om,sz⟩ (fun _ h=>h.upto ⟨by rw [hst,zK,if_pos c2,jjk,jjv];rfl,trivial⟩)
   ·refine qt [(63, .bool (rf&& !lf))] (kK [0,1,4,5,6,11,12,13,14,17,18,19,7,20,21,22,23,24,25,26,27,28,29,8,30,31,32,33,34,35,36,37,38,39,40,41,42,43,44,45,46,47,48,49,9,50]) (fun L h_10=> ?_) ?_
    ·refine S3 ?_;refine cV 65 (fun g2=> ?_) (fun g2=> ?_)
     ·refine S7 ?_
      exact Jo h_10 ⟨vb (by rw [g2,jjG]),sz⟩ (u9 J)
     ·refine S5 ?_
      exact Jo h_10 ⟨vb (by rw [g2,jjU]),sz⟩ (u9 J)
    ·refine v9 ?_;refine cZ (fun c3=> ?_) (fun c3=> ?_)
     ·refine S1 ?_;refine JS 13 ?_;refine dK 0 ?_;refine dV 1 [2,3,4,5,11,12] ?_;refine dV 2 [3,4,5,11,12] ?_;refine dV 3 [4,5,11,12] ?_;refine dV 4 [5,11,12] ?_;refine d9 5 J [11,12] (u9 J) (jl J J jk J (xy [.int .i64 X.e.bx, .int .i64 X.e.b_y] 2 (fun w hs=>Qr hr hs.fin) hlS Om (by rw [hX];exact Xr J J))) ?_;refine dV 6 [7,8,9,10,11,12] ?_;refine dV 7 [8,9,10,11,12] ?_;refine dV 8 [9,10,11,12] ?_;refine dV 9 [10,11,12] ?_;refine d9 10 J [11,12] (u9 J) (jl J J jk J (xy [.int .i64 X.e.ax, .int .i64 X.e.ay] 0 (fun w hs=>Qr hr hs.fin) hlS Om (by rw [hX];exact Xr J J))) ?_;refine d9 11 J [12] (u9 J) (JR J J (uX J J)) ?_;refine J7 (i:=12) J Dc Kr J ?_;refine Jy J J (WG J) J (lb J) (fun b3=> ?_);refine n9 ?_;refine JN (u9 J) ?_;refine KV J Kr J ?_;refine JY (k:=0) J Ju kq Dc J Dc J J J (fun w' hs=>Qb hs (k:=1) J J) (by simp [Value.oneCell']) (by unfold maxLen;omega) Om (jjm _) (fun r2=> ?_);refine n9 ?_;refine JS 15 ?_;refine dK 14 ?_;refine JJ Kr ?_;refine S8 ?_
      exact Jq hL1 ((i+1,r2)) ((show i+1≤NL.length by omega)) (by simp only;omega) ⟨(by rw [hst,zK,if_neg (by rw [c2];simp),if_pos c3,jjk];rfl),vi Om,sz⟩ (fun _ h=>h.upto ⟨by rw [hst,zK,if_neg (by rw [c2];simp),if_pos c3,jjk,jjv];rfl,trivial⟩)
     ·refine S9 ?_
      exact Jq hL1 ((i+1,rA,rc)) ((show i+1≤NL.length by omega)) (by simp only;omega) ⟨(by rw [hst,zK,if_neg (by rw [c2];simp),if_neg (by rw [c3];simp),jjL];rfl),vi Om,sz⟩ (fun _ h=>h.upto ⟨by rw [hst,zK,if_neg (by rw [c2];simp),if_neg (by rw [c3];simp),jjL],trivial⟩)
 ·have hik:i=NL.length:=Om
  rw [hik]
  refine S11 ?_;refine jK J (.tmp J) ?_
  intro w' hs
  have hr2:=hs.all 0 _ rfl
  exact⟨_,rfl,vy hr2.1 (fun b hb=> (hr2.2.1 b hb).elim id (fun h=>by cases h)),hs.fin⟩
end Go.Proofs.YtbahojdbmmjkcaaGreat
