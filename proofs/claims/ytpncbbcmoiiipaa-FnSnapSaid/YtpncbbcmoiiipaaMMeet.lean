import Derived.Test.YtpncbbcmoiiipaaMOn
import Derived.Test.YtpncbbcmoiiipaaMReg3
set_option linter.unusedVariables false
set_option linter.unusedSimpArgs false
namespace Go.Proofs.Ytpncbbcmoiiipaa
open Go Go.RowKit
set_option maxRecDepth 100000
set_option maxHeartbeats 4000000
open Go.RowKit
abbrev Pn:=Int×Int
def tn (a b c:Pn) :Int:=QX a.1 a.2 b.1 b.2 c.1 c.2
def VP (a b p:Pn) :Bool:=xB a.1 a.2 b.1 b.2 p.1 p.2
def bd2 (p:Pn) :Prop:= (-262144≤p.1∧p.1≤262144)∧-262144≤p.2∧p.2≤262144
def key (p:Pn) :Int:=p.1*1048576+p.2
theorem Mf {p q:Pn} (hp:bd2 p) (hq:bd2 q) (h:key p=key q) :p=q:=by
 obtain ⟨x,y⟩ :=p;obtain ⟨x',y'⟩ :=q
 unfold bd2 key at*
 simp only at*
 have:x=x':=by omega
 subst this
 have:y=y':=by omega
 rw [this]
theorem kW {a b p:Pn} :VP a b p=true↔tn a b p=0∧(min a.1 b.1≤p.1∧p.1≤max a.1 b.1)∧min a.2 b.2≤p.2∧p.2≤max a.2 b.2:=by
 simp only [VP,xB,tn,DL,beq_iff_eq,decide_eq_true_eq]
 constructor
 ·rintro⟨⟨⟨⟨h1,h2⟩,h3⟩,h4⟩,h5⟩;exact⟨h1,⟨h2,h3⟩,h4,h5⟩
 ·rintro⟨h1,⟨h2,h3⟩,h4,h5⟩;exact⟨⟨⟨⟨h1,h2⟩,h3⟩,h4⟩,h5⟩
theorem GE {a b:Int} (h:a*b=0) :a=0∨b=0:=Int.mul_eq_zero.1 h
theorem Bn {x1 x2 y1 y2 u1 u2:Int} (hx:x1*u2- x2*u1=0) (hy:y1*u2- y2*u1=0) (hu:¬(u1=0∧u2=0)) :x1*y2- x2*y1=0:=by
 have e1:u1* (x1*y2- x2*y1) =0:=by grind
 have e2:u2* (x1*y2- x2*y1) =0:=by grind
 rcases GE e1 with h | h
 ·rcases GE e2 with h' | h'
  ·exact absurd ⟨h,h'⟩ hu
  ·exact h'
 ·exact h
theorem OT {a b c d p q:Pn} (hp:VP a b p=true) (hp':VP c d p=true) (hq:VP a b q=true) (hq':VP c d q=true) (hne:p≠q) :
  tn a b c=0∧tn a b d=0∧tn c d a=0∧tn c d b=0:=by
 rw [kW] at hp hp' hq hq'
 obtain ⟨a1,a2⟩ :=a;obtain ⟨b1,b2⟩ :=b;obtain ⟨c1,c2⟩ :=c;obtain ⟨d1,d2⟩ :=d;obtain ⟨p1,p2⟩ :=p;obtain ⟨q1,q2⟩ :=q
 simp only [tn,QX] at*
 have hu:¬(q1- p1=0∧q2- p2=0) :=fun h=>hne (by rw [show p1=q1 by omega,show p2=q2 by omega])
 have hab: (b1- a1) * (q2- p2) - (b2- a2) * (q1- p1) =0:=by grind
 have hcd: (d1- c1) * (q2- p2) - (d2- c2) * (q1- p1) =0:=by grind
 have hpar:=Bn hab hcd hu
 have hcp: (c1- p1) * (q2- p2) - (c2- p2) * (q1- p1) =0:=by
  by_cases hz:d1- c1=0∧d2- c2=0
  ·have:p1=q1∧p2=q2:=by omega
   exact absurd (by rw [this.1,this.2]) hne
  ·have h1: (c1- p1) * (d2- c2) - (c2- p2) * (d1- c1) =0:=by grind
   have h2: (q1- p1) * (d2- c2) - (q2- p2) * (d1- c1) =0:=by grind
   exact Bn h1 h2 hz
 have hap: (a1- p1) * (q2- p2) - (a2- p2) * (q1- p1) =0:=by
  by_cases hz:b1- a1=0∧b2- a2=0
  ·have:p1=q1∧p2=q2:=by omega
   exact absurd (by rw [this.1,this.2]) hne
  ·have h1: (a1- p1) * (b2- a2) - (a2- p2) * (b1- a1) =0:=by grind
   have h2: (q1- p1) * (b2- a2) - (q2- p2) * (b1- a1) =0:=by grind
   exact Bn h1 h2 hz
 have k1:=Bn hab hcp hu
 have k2:=Bn hcd hap hu
 refine⟨?_,?_,?_,?_⟩ <;>grind
theorem Ld {a b p:Pn} (ha:bd2 a) (hb:bd2 b) (hp:bd2 p) (h:tn a b p=0) :VP a b p=true↔min (key a) (key b)≤key p∧key p≤max (key a) (key b) :=by
 rw [kW]
 obtain ⟨a1,a2⟩ :=a;obtain ⟨b1,b2⟩ :=b;obtain ⟨p1,p2⟩ :=p
 simp only [tn,QX,key,bd2] at*
 constructor
 ·rintro⟨_,h2,h3⟩
  rcases Fx a1 b1 with hx | hx | hx
  ·by_cases e:p1=a1
   ·subst e
    have: (b1- p1) * (p2- a2) =0:=by grind
    rcases GE this with h4 | h4<;>omega
   ·by_cases e:p1=b1
    ·subst e
     have: (p1- a1) * (p2- b2) =0:=by grind
     rcases GE this with h4 | h4<;>omega
    ·omega
  ·omega
  ·by_cases e:p1=a1
   ·subst e
    have: (b1- p1) * (p2- a2) =0:=by grind
    rcases GE this with h4 | h4<;>omega
   ·by_cases e:p1=b1
    ·subst e
     have: (p1- a1) * (p2- b2) =0:=by grind
     rcases GE this with h4 | h4<;>omega
    ·omega
 ·intro h2
  have hx:min a1 b1≤p1∧p1≤max a1 b1:=by omega
  refine⟨h,hx,?_⟩
  rcases Fx a1 b1 with hl | hl | hl
  ·have k1:0≤p1- a1:=by omega
   have k2:p1- a1≤b1- a1:=by omega
   have e: (b1- a1) * (p2- a2) = (b2- a2) * (p1- a1) :=by omega
   by_cases hy:a2≤b2
   ·have g1:0≤(b2- a2) * (p1- a1) :=DU Om k1
    have g2: (b2- a2) * (p1- a1)≤(b2- a2) * (b1- a1) :=DW k2 Om
    have g3: (b1- a1) * (p2- a2)≤(b1- a1) * (b2- a2) :=by rw [e,Fg (b1- a1)];exact g2
    have g4: (b1- a1) *0≤(b1- a1) * (p2- a2) :=by rw [e];simpa using g1
    have:=Fv g3 Om
    have:=Fv g4 Om
    omega
   ·have g1:0≤(a2- b2) * (p1- a1) :=DU Om k1
    have g2: (a2- b2) * (p1- a1)≤(a2- b2) * (b1- a1) :=DW k2 Om
    have e': (b1- a1) * (a2- p2) = (a2- b2) * (p1- a1) :=by grind
    have g3: (b1- a1) * (a2- p2)≤(b1- a1) * (a2- b2) :=by rw [e',Fg (b1- a1)];exact g2
    have g4: (b1- a1) *0≤(b1- a1) * (a2- p2) :=by rw [e'];simpa using g1
    have:=Fv g3 Om
    have:=Fv g4 Om
    omega
  ·omega
  ·have k1:0≤a1- p1:=by omega
   have k2:a1- p1≤a1- b1:=by omega
   by_cases hy:a2≤b2
   ·have g1:0≤(b2- a2) * (a1- p1) :=DU Om k1
    have g2: (b2- a2) * (a1- p1)≤(b2- a2) * (a1- b1) :=DW k2 Om
    have e': (a1- b1) * (p2- a2) = (b2- a2) * (a1- p1) :=by grind
    have g3: (a1- b1) * (p2- a2)≤(a1- b1) * (b2- a2) :=by rw [e',Fg (a1- b1)];exact g2
    have g4: (a1- b1) *0≤(a1- b1) * (p2- a2) :=by rw [e'];simpa using g1
    have:=Fv g3 Om
    have:=Fv g4 Om
    omega
   ·have g1:0≤(a2- b2) * (a1- p1) :=DU Om k1
    have g2: (a2- b2) * (a1- p1)≤(a2- b2) * (a1- b1) :=DW k2 Om
    have e': (a1- b1) * (a2- p2) = (a2- b2) * (a1- p1) :=by grind
    have g3: (a1- b1) * (a2- p2)≤(a1- b1) * (a2- b2) :=by rw [e',Fg (a1- b1)];exact g2
    have g4: (a1- b1) *0≤(a1- b1) * (a2- p2) :=by rw [e'];simpa using g1
    have:=Fv g3 Om
    have:=Fv g4 Om
    omega
def Wi (p q:Pn) :Int:=if p.1=q.1 then KN (p.2- q.2) else KN (p.1- q.1)
theorem um (n:Int) : (n<0∧KN n= -1)∨(n=0∧KN n=0)∨(0<n∧KN n=1) :=by unfold KN;split<;> (try split) <;>omega
theorem UH {p q:Pn} (hp:bd2 p) (hq:bd2 q) :Wi p q=KN (key p- key q) :=by
 obtain ⟨x,y⟩ :=p;obtain ⟨x',y'⟩ :=q
 unfold bd2 Wi key at*
 simp only at*
 have h1:=um (y- y');have h2:=um (x- x');have h3:=um (x*1048576+y- (x'*1048576+y'))
 split<;>omega
def Wv (a b:Pn) :Pn:=if Wi a b≤0 then a else b
def Wq (a b:Pn) :Pn:=if 0≤Wi a b then a else b
theorem vD {p q:Pn} (hp:bd2 p) (hq:bd2 q) :key (Wv p q) =min (key p) (key q)∧bd2 (Wv p q)∧(Wv p q=p∨Wv p q=q) :=by
 unfold Wv;rw [UH hp hq]
 have:=um (key p- key q)
 split
 ·exact⟨by omega,hp, .inl rfl⟩
 ·exact⟨by omega,hq, .inr rfl⟩
theorem vz {p q:Pn} (hp:bd2 p) (hq:bd2 q) :key (Wq p q) =max (key p) (key q)∧bd2 (Wq p q)∧(Wq p q=p∨Wq p q=q) :=by
 unfold Wq;rw [UH hp hq]
 have:=um (key p- key q)
 split
 ·exact⟨by omega,hp, .inl rfl⟩
 ·exact⟨by omega,hq, .inr rfl⟩
def Wp (a b c d:Pn) :Bool:= (KN (tn a b c) ==0) && (KN (tn a b d) ==0) && (KN (tn c d a) ==0) && (KN (tn c d b) ==0)
def J4 (a b c d:Pn) :Bool:=decide (KN (tn a b c) *KN (tn a b d) <0) &&decide (KN (tn c d a) *KN (tn c d b) <0)
def vq (a b c d:Pn) :Pn:=Wq (Wv a b) (Wv c d)
def KC (a b c d:Pn) :Pn:=Wv (Wq a b) (Wq c d)
def qE (a b c d:Pn) :Int×Pn:=
 if Wp a b c d=true then
  (if Wi (vq a b c d) (KC a b c d) =0 then(1,vq a b c d) else if Wi (vq a b c d) (KC a b c d) = -1 then(3,vq a b c d) else(0,(0,0)))
 else if J4 a b c d=true then(2,(0,0))
 else if VP a b c=true then(1,c) else if VP a b d=true then(1,d) else if VP c d a=true then(1,a) else if VP c d b=true then(1,b) else(0,(0,0))
def Q6 (a b c d p:Pn) :Bool:=VP a b p&&VP c d p
def yA (a b c d:Pn) (out:List Pn) (p:Pn) :List Pn:=if(!(out.contains p) &&Q6 a b c d p) =true then out++ [p] else out
def QW (a b c d:Pn) :List Pn:=yA a b c d (yA a b c d (yA a b c d (yA a b c d [] a) b) c) d
def Qx (a b c d:Pn) :Int:=if(QW a b c d).length=0 then(if J4 a b c d=true then 2 else 0) else if(QW a b c d).length=1 then 1 else 3
theorem G9 {a b c d p q:Pn} {out:List Pn} :q∈yA a b c d out p↔q∈out∨(q=p∧Q6 a b c d p=true) :=by
 unfold yA
 split
 ·rename_i h
  simp only [DL] at h
  simp [h.2]
 ·rename_i h
  simp only [DL,Fm,not_and,Bool.not_eq_true] at h
  constructor
  ·exact .inl
  ·rintro(h1 |⟨rfl,h1⟩)
   ·exact h1
   ·by_cases hc:out.contains q=true
    ·simpa using hc
    ·rw [h (by simpa using hc)] at h1;cases h1
theorem vT {a b c d p:Pn} {out:List Pn} (h:out.Nodup) : (yA a b c d out p).Nodup:=by
 unfold yA
 split
 ·rename_i h'
  simp only [DL,Fm] at h'
  rw [List.nodup_append]
  exact⟨h,by simp,fun x hx y hy e=>by simp at hy;subst hy;subst e;have:=h'.1;simp at this;exact this hx⟩
 ·exact h
theorem qG {a b c d q:Pn} :q∈QW a b c d↔(q=a∨q=b∨q=c∨q=d)∧Q6 a b c d q=true:=by
 unfold QW
 simp only [G9,Fp,false_or]
 constructor
 ·rintro(((⟨rfl,h⟩ |⟨rfl,h⟩) |⟨rfl,h⟩) |⟨rfl,h⟩)
  ·exact⟨.inl rfl,h⟩
  ·exact⟨.inr (.inl rfl),h⟩
  ·exact⟨.inr (.inr (.inl rfl)),h⟩
  ·exact⟨.inr (.inr (.inr rfl)),h⟩
 ·rintro⟨rfl | rfl | rfl | rfl,h⟩
  ·exact .inl (.inl (.inl ⟨rfl,h⟩))
  ·exact .inl (.inl (.inr ⟨rfl,h⟩))
  ·exact .inl (.inr ⟨rfl,h⟩)
  ·exact .inr ⟨rfl,h⟩
theorem uv (a b c d:Pn) : (QW a b c d).Nodup:=vT (vT (vT (vT List.nodup_nil)))
theorem Mg {l:List Pn} (h:∀q,q∉l) :l.length=0:=by
 cases l with
 | nil=>rfl
 | cons a r=>exact absurd (D3) (h a)
theorem Bb {l:List Pn} {p:Pn} (hn:l.Nodup) (hp:p∈l) (h:∀q∈l,q=p) :l= [p] :=by
 match l,hn,hp,h with
 | [x],_,_,h=>rw [h x (by simp)]
 | x::y::r,hn,_,h=>
  have h1:=h x (by simp);have h2:=h y (by simp)
  rw [h1,h2] at hn
  simp at hn
theorem Bc {l:List Pn} {p q:Pn} (hp:p∈l) (hq:q∈l) (hne:p≠q) :¬l.length=0∧¬l.length=1:=by
 match l,hp,hq with
 | [x],hp,hq=>simp at hp hq;exact absurd (hp.trans hq.symm) hne
 | x::y::r,_,_=>simp
theorem wb (a b:Pn) :VP a b a=true:=by rw [kW];simp only [tn,QX];refine⟨by grind,?_⟩;omega
theorem WF (a b:Pn) :VP a b b=true:=by rw [kW];simp only [tn,QX];refine⟨by grind,?_⟩;omega
theorem XW {n:Int} : (KN n==0) =true↔n=0:=by have:=um n;simp;omega
theorem VW {m n:Int} :KN m*KN n<0↔(m<0∧0<n)∨(0<m∧n<0) :=by
 rcases um m with⟨h1,e1⟩ |⟨h1,e1⟩ |⟨h1,e1⟩ <;>rcases um n with⟨h2,e2⟩ |⟨h2,e2⟩ |⟨h2,e2⟩ <;>rw [e1,e2] <;>omega
theorem W8 {a b c d:Pn} (ha:bd2 a) (hb:bd2 b) (hc:bd2 c) (hd:bd2 d) :
  (qE a b c d).1=Qx a b c d∧((qE a b c d).1=1→QW a b c d= [(qE a b c d).2]) :=by
 unfold qE Qx
 by_cases hf:Wp a b c d=true
 ·rw [if_pos hf]
  simp only [Wp,DL,XW] at hf
  obtain ⟨⟨⟨f1,f2⟩,f3⟩,f4⟩ :=hf
  have f5:tn a b a=0:=by simp only [tn,QX];grind
  have f6:tn a b b=0:=by simp only [tn,QX];grind
  have f7:tn c d c=0:=by simp only [tn,QX];grind
  have f8:tn c d d=0:=by simp only [tn,QX];grind
  obtain ⟨l1,l2,l3⟩ :=vD ha hb
  obtain ⟨l4,l5,l6⟩ :=vD hc hd
  obtain ⟨g1,g2,g3⟩ :=vz ha hb
  obtain ⟨g4,g5,g6⟩ :=vz hc hd
  obtain ⟨m1,m2,m3⟩ :=vz l2 l5
  obtain ⟨m4,m5,m6⟩ :=vD g2 g5
  have hns:J4 a b c d=false:=by simp only [J4,f1,f3];simp [KN]
  have key1:∀q,(q=a∨q=b∨q=c∨q=d)→(Q6 a b c d q=true↔key (vq a b c d)≤key q∧key q≤key (KC a b c d)) :=by
   intro q hq
   have hqb:bd2 q:=by rcases hq with rfl | rfl | rfl | rfl<;>assumption
   have t1:tn a b q=0:=by rcases hq with rfl | rfl | rfl | rfl<;>assumption
   have t2:tn c d q=0:=by rcases hq with rfl | rfl | rfl | rfl<;>assumption
   simp only [Q6,DL]
   rw [Ld ha hb hqb t1,Ld hc hd hqb t2]
   show _↔key (Wq (Wv a b) (Wv c d))≤key q∧key q≤key (Wv (Wq a b) (Wq c d))
   omega
  have hlow:vq a b c d=a∨vq a b c d=b∨vq a b c d=c∨vq a b c d=d:=by
   unfold vq
   rcases m3 with e | e<;>rw [e]
   ·rcases l3 with e | e<;>rw [e] <;>simp
   ·rcases l6 with e | e<;>rw [e] <;>simp
  have hhigh:KC a b c d=a∨KC a b c d=b∨KC a b c d=c∨KC a b c d=d:=by
   unfold KC
   rcases m6 with e | e<;>rw [e]
   ·rcases g3 with e | e<;>rw [e] <;>simp
   ·rcases g6 with e | e<;>rw [e] <;>simp
  have hlb:bd2 (vq a b c d) :=m2
  have hhb:bd2 (KC a b c d) :=m5
  rw [UH hlb hhb]
  rcases um (key (vq a b c d) - key (KC a b c d)) with⟨k1,e⟩ |⟨k1,e⟩ |⟨k1,e⟩
  ·rw [e,if_neg Om,if_pos rfl]
   have h1:vq a b c d∈QW a b c d:=qG.2 ⟨hlow,(key1 _ hlow).2 Om⟩
   have h2:KC a b c d∈QW a b c d:=qG.2 ⟨hhigh,(key1 _ hhigh).2 Om⟩
   obtain ⟨n1,n2⟩ :=Bc h1 h2 (fun e=>by rw [e] at k1;omega)
   rw [if_neg n1,if_neg n2]
   exact⟨rfl,fun h=>absurd h (by simp)⟩
  ·rw [e,if_pos rfl]
   have h1:vq a b c d∈QW a b c d:=qG.2 ⟨hlow,(key1 _ hlow).2 Om⟩
   have hl:=Bb (uv a b c d) h1 fun q hq=>by
    obtain ⟨hq1,hq2⟩ :=qG.1 hq
    have hqb:bd2 q:=by rcases hq1 with rfl | rfl | rfl | rfl<;>assumption
    have:= (key1 q hq1).1 hq2
    exact Mf hqb hlb Om
   rw [hl]
   exact⟨rfl,fun _=>rfl⟩
  ·rw [e,if_neg Om,if_neg Om]
   have hl:=Mg (l:=QW a b c d) fun q hq=>by
    obtain ⟨hq1,hq2⟩ :=qG.1 hq
    have:= (key1 q hq1).1 hq2
    omega
   rw [if_pos hl,hns]
   exact⟨rfl,fun h=>absurd h (by simp)⟩
 ·rw [if_neg hf]
  have huniq:∀p q,Q6 a b c d p=true→Q6 a b c d q=true→p=q:=by
   intro p q hp hq
   simp only [Q6,DL] at hp hq
   by_cases e:p=q
   ·exact e
   ·obtain ⟨t1,t2,t3,t4⟩ :=OT hp.1 hp.2 hq.1 hq.2 e
    exact absurd (by simp only [Wp,DL,XW];exact⟨⟨⟨t1,t2⟩,t3⟩,t4⟩) hf
  have one:∀p,(p=a∨p=b∨p=c∨p=d)→Q6 a b c d p=true→QW a b c d= [p] :=fun p hp hb=>
   Bb (uv a b c d) (qG.2 ⟨hp,hb⟩) fun q hq=>huniq q p (qG.1 hq).2 hb
  by_cases hs:J4 a b c d=true
  ·rw [if_pos hs]
   have hs':=hs
   simp only [J4,DL,decide_eq_true_eq,VW] at hs'
   have hl:=Mg (l:=QW a b c d) fun q hq=>by
    obtain ⟨hq1,hq2⟩ :=qG.1 hq
    simp only [Q6,DL,kW] at hq2
    rcases hq1 with rfl | rfl | rfl | rfl<;>omega
   rw [if_pos hl,if_pos hs]
   exact⟨rfl,fun h=>absurd h (by simp)⟩
  ·rw [if_neg hs]
   by_cases h1:VP a b c=true
   ·rw [if_pos h1,one c (by simp) (by simp [Q6,h1,wb])]
    exact⟨rfl,fun _=>rfl⟩
   rw [if_neg h1]
   by_cases h2:VP a b d=true
   ·rw [if_pos h2,one d (by simp) (by simp [Q6,h2,WF])]
    exact⟨rfl,fun _=>rfl⟩
   rw [if_neg h2]
   by_cases h3:VP c d a=true
   ·rw [if_pos h3,one a (by simp) (by simp [Q6,h3,wb])]
    exact⟨rfl,fun _=>rfl⟩
   rw [if_neg h3]
   by_cases h4:VP c d b=true
   ·rw [if_pos h4,one b (by simp) (by simp [Q6,h4,WF])]
    exact⟨rfl,fun _=>rfl⟩
   rw [if_neg h4]
   have hl:=Mg (l:=QW a b c d) fun q hq=>by
    obtain ⟨hq1,hq2⟩ :=qG.1 hq
    simp only [Q6,DL] at hq2
    rcases hq1 with rfl | rfl | rfl | rfl
    ·exact h3 hq2.2
    ·exact h4 hq2.2
    ·exact h1 hq2.1
    ·exact h2 hq2.1
   rw [if_pos hl,if_neg hs]
   exact⟨rfl,fun h=>absurd h (by simp)⟩
def WW (a b c d:Pn) :Bool:=decide (max a.1 b.1<min c.1 d.1) || decide (max c.1 d.1<min a.1 b.1) || decide (max a.2 b.2<min c.2 d.2) || decide (max c.2 d.2<min a.2 b.2)
theorem Ot {s t x y z:Int} (hs:s<0) (ht:0<t) (hx:x<z) (hy:y<z) :t*x- s*y< (t- s) *z:=by
 have h1:t*x<t*z:=F9 hx ht
 have h2: -s*y< -s*z:=F9 hy Om
 grind
theorem Oq {s t x y z:Int} (hs:s<0) (ht:0<t) (hx:z≤x) (hy:z≤y) : (t- s) *z≤t*x- s*y:=by
 have h1:t*z≤t*x:=DW hx Om
 have h2: -s*z≤-s*y:=DW hy Om
 grind
theorem V1 {t1 t2 t3 t4 x y z u m:Int} (h12: (t1<0∧0<t2)∨(0<t1∧t2<0)) (h34: (t3<0∧0<t4)∨(0<t3∧t4<0))
  (e: (t4*x- t3*y) * (t2- t1) = (t2*z- t1*u) * (t4- t3)) :¬(x<m∧y<m∧m≤z∧m≤u) :=by
 rintro⟨h1,h2,h3,h4⟩
 have key:∀s t s' t':Int,s<0→0<t→s'<0→0<t'→(t'*x- s'*y) * (t- s) = (t*z- s*u) * (t'- s')→False:=by
  intro s t s' t' a1 a2 a3 a4 e
  have k1:=Ot a3 a4 h1 h2
  have k2:=Oq a1 a2 h3 h4
  have k3: (t'*x- s'*y) * (t- s) < ((t'- s') *m) * (t- s) :=D4 k1 Om
  have k4: ((t- s) *m) * (t'- s')≤(t*z- s*u) * (t'- s') :=DJ k2 Om
  have k5: ((t'- s') *m) * (t- s) = ((t- s) *m) * (t'- s') :=by grind
  omega
 rcases h12 with⟨a1,a2⟩ |⟨a1,a2⟩ <;>rcases h34 with⟨a3,a4⟩ |⟨a3,a4⟩
 ·exact key t1 t2 t3 t4 a1 a2 a3 a4 e
 ·exact key t1 t2 (-t3) (-t4) a1 a2 Om Om (by grind)
 ·exact key (-t1) (-t2) t3 t4 Om Om a3 a4 (by grind)
 ·exact key (-t1) (-t2) (-t3) (-t4) Om Om Om Om (by grind)
theorem ZX {a b c d:Pn} (h:WW a b c d=true) :Qx a b c d=0:=by
 have hne:∀q,Q6 a b c d q=false:=by
  intro q
  cases hq:Q6 a b c d q
  ·rfl
  ·simp only [Q6,DL,kW] at hq
   simp only [WW,Fu,decide_eq_true_eq] at h
   omega
 have hl:=Mg (l:=QW a b c d) fun q hq=>by
  have:= (qG.1 hq).2
  rw [hne] at this
  cases this
 unfold Qx
 rw [if_pos hl,if_neg]
 intro hs
 simp only [J4,DL,decide_eq_true_eq,VW] at hs
 obtain ⟨h1,h2⟩ :=hs
 simp only [WW,Fu,decide_eq_true_eq] at h
 obtain ⟨a1,a2⟩ :=a;obtain ⟨b1,b2⟩ :=b;obtain ⟨c1,c2⟩ :=c;obtain ⟨d1,d2⟩ :=d
 simp only [tn] at h1 h2
 simp only at h
 have ex: (QX c1 c2 d1 d2 b1 b2*a1- QX c1 c2 d1 d2 a1 a2*b1) * (QX a1 a2 b1 b2 d1 d2- QX a1 a2 b1 b2 c1 c2) = (QX a1 a2 b1 b2 d1 d2*c1- QX a1 a2 b1 b2 c1 c2*d1) * (QX c1 c2 d1 d2 b1 b2- QX c1 c2 d1 d2 a1 a2) :=by
  simp only [QX];grind
 have ey: (QX c1 c2 d1 d2 b1 b2*a2- QX c1 c2 d1 d2 a1 a2*b2) * (QX a1 a2 b1 b2 d1 d2- QX a1 a2 b1 b2 c1 c2) = (QX a1 a2 b1 b2 d1 d2*c2- QX a1 a2 b1 b2 c1 c2*d2) * (QX c1 c2 d1 d2 b1 b2- QX c1 c2 d1 d2 a1 a2) :=by
  simp only [QX];grind
 rcases h with((h | h) | h) | h
 ·exact V1 (m:=min c1 d1) h1 h2 ex Om
 ·exact V1 (m:=min a1 b1) h2 h1 ex.symm Om
 ·exact V1 (m:=min c2 d2) h1 h2 ey Om
 ·exact V1 (m:=min a2 b2) h2 h1 ey.symm Om
def Yg (a b c d:Pn) :Bool:=
 if(a=c∧b=d)∨(a=d∧b=c) then true
 else if(qE a b c d).1=1 then(decide ((qE a b c d).2=a) || decide ((qE a b c d).2=b)) && (decide ((qE a b c d).2=c) || decide ((qE a b c d).2=d))
 else decide ((qE a b c d).1=0)
def Yh (a b c d:Pn) :Bool:=
 if WW a b c d=true then true
 else if Qx a b c d=2 then false
 else if Qx a b c d=1 then !(decide (a≠c) &&decide (a≠d) &&decide (b≠c) &&decide (b≠d))
 else if Qx a b c d=3 then decide ((a=c∧b=d)∨(a=d∧b=c))
 else true
theorem Ze (a b c d:Pn) :Qx a b c d=0∨Qx a b c d=1∨Qx a b c d=2∨Qx a b c d=3:=by
 unfold Qx;split<;> (try split) <;>simp
theorem GJ {a b c d:Pn} (ha:bd2 a) (hb:bd2 b) (hc:bd2 c) (hd:bd2 d) (hab:a≠b) (hcd:c≠d) :Yg a b c d=Yh a b c d:=by
 obtain ⟨hk,hp⟩ :=W8 ha hb hc hd
 unfold Yg Yh
 by_cases hs: (a=c∧b=d)∨(a=d∧b=c)
 ·rw [if_pos hs]
  have h3:Qx a b c d=3:=by
   have m1:a∈QW a b c d:=qG.2 ⟨by simp,by rcases hs with⟨rfl,rfl⟩ |⟨rfl,rfl⟩ <;>simp [Q6,wb,WF]⟩
   have m2:b∈QW a b c d:=qG.2 ⟨by simp,by rcases hs with⟨rfl,rfl⟩ |⟨rfl,rfl⟩ <;>simp [Q6,wb,WF]⟩
   obtain ⟨n1,n2⟩ :=Bc m1 m2 hab
   unfold Qx;rw [if_neg n1,if_neg n2]
  by_cases hap:WW a b c d=true
  ·rw [if_pos hap]
  ·rw [if_neg hap,h3];simp [hs]
 ·rw [if_neg hs,hk]
  by_cases hap:WW a b c d=true
  ·rw [if_pos hap,ZX hap];simp
  ·rw [if_neg hap]
   rcases Ze a b c d with e | e | e | e<;>rw [e]
   ·simp
   ·have he:=hp (hk.trans e)
    simp only [if_pos,if_neg]
    generalize (qE a b c d).2=p at he
    have hpm:p∈QW a b c d:=by rw [he];simp
    have share:∀q,(q=a∨q=b)→(q=c∨q=d)→q=p:=fun q h1 h2=>by
     have:q∈QW a b c d:=qG.2 ⟨by rcases h1 with rfl | rfl<;>simp,by rcases h1 with rfl | rfl<;>rcases h2 with rfl | rfl<;>simp [Q6,wb,WF]⟩
     rw [he] at this
     simpa using this
    have s1:=share a (.inl rfl);have s2:=share b (.inr rfl)
    simp
    by_cases e1:a=c
    ·have:=s1 (.inl e1);subst this;simp [e1]
    ·by_cases e2:a=d
     ·have:=s1 (.inr e2);subst this;simp [e2]
     ·by_cases e3:b=c
      ·have:=s2 (.inl e3);subst this;simp [e3]
      ·by_cases e4:b=d
       ·have:=s2 (.inr e4);subst this;simp [e4]
       ·simp only [e1,e2,e3,e4]
        simp
        rintro(rfl | rfl)
        ·exact⟨e1,e2⟩
        ·exact⟨e3,e4⟩
   ·simp
   ·simp [hs]
abbrev pV (p:Pn) :Value:= .agg #[.int .i64 p.1, .int .i64 p.2]
theorem kR {p:Pn} (h:bd2 p) :wy p.1∧wy p.2:=by
 obtain ⟨⟨h1,h2⟩,h3,h4⟩ :=h
 exact⟨⟨by omega,by omega⟩,by omega,by omega⟩
theorem zo (a b c:Pn) (w:World) (ha:bd2 a) (hb:bd2 b) (hc:bd2 c) :Calls Try.prog 49 #[pV a,pV b,pV c] w fun e w'=>e= .returned (.int .i64 (tn a b c))∧Over w w':=by
 obtain ⟨a1,a2⟩ :=kR ha;obtain ⟨b1,b2⟩ :=kR hb;obtain ⟨c1,c2⟩ :=kR hc
 exact ZL a.1 a.2 b.1 b.2 c.1 c.2 w a1.1 a1.2 a2.1 a2.2 b1.1 b1.2 b2.1 b2.2 c1.1 c1.2 c2.1 c2.2
theorem Ui (a b c:Pn) (w:World) (ha:bd2 a) (hb:bd2 b) (hc:bd2 c) :Calls Try.prog 53 #[pV a,pV b,pV c] w fun e w'=>e= .returned (.bool (VP a b c))∧Over w w':=by
 obtain ⟨a1,a2⟩ :=kR ha;obtain ⟨b1,b2⟩ :=kR hb;obtain ⟨c1,c2⟩ :=kR hc
 exact yK a.1 a.2 b.1 b.2 c.1 c.2 w a1 a2 b1 b2 c1 c2
theorem VE (a b:Pn) (w:World) (ha:bd2 a) (hb:bd2 b) :Calls Try.prog 52 #[pV a,pV b] w fun e w'=>e= .returned (.int .i64 (Wi a b))∧Over w w':=by
 obtain ⟨⟨a1,a2⟩,a3,a4⟩ :=ha;obtain ⟨⟨b1,b2⟩,b3,b4⟩ :=hb
 refine Jh (m:=22) (Try.func52) J J (lb J) ?_;refine S3 ?_;refine aX (fun b1=> ?_);refine N1 ?_;refine aX (fun b2=> ?_);refine B9 ?_;refine cZ (fun c1=> ?_) (fun c1=> ?_)
 ·refine S7 ?_;refine a9 (jN qL J J (fun w h=>Calls.still (Qv _ w))) ?_;refine S4 ?_;refine jG J (.tmp J) ?_
  intro w' hs
  exact⟨OK (by simp [Wi,c1]),hs.fin⟩
 ·refine S9 ?_;refine a9 (jN qL J J (fun w h=>Calls.still (Qv _ w))) ?_;refine S3 ?_;refine jG J (.tmp J) ?_
  intro w' hs
  exact⟨OK (by simp [Wi,c1]),hs.fin⟩
theorem wN (a b:Pn) (w:World) (ha:bd2 a) (hb:bd2 b) :Calls Try.prog 51 #[pV a,pV b] w fun e w'=>e= .returned (pV (Wv a b))∧Over w w':=by
 refine Jh (m:=11) (Try.func51) J J (lb J) ?_;refine S3 ?_;refine aX (fun b1=> ?_);refine N1 ?_;refine aX (fun b2=> ?_);refine N1 ?_;refine aL (fun b3=> ?_);refine N6 ?_;refine a9 (jN kT J J (fun w h=>VE a b w ha hb)) ?_;refine S2 ?_;refine cZ (fun c1=> ?_) (fun c1=> ?_)
 ·refine S8 ?_;refine jG J (qO (k:=2) J jh J J) ?_
  intro w' hs
  exact⟨by rw [Wv,if_pos c1],hs.fin⟩
 ·refine S9 ?_;refine jG J (qO (k:=2) J jh J J) ?_
  intro w' hs
  exact⟨by rw [Wv,if_neg Om],hs.fin⟩
theorem VG (a b:Pn) (w:World) (ha:bd2 a) (hb:bd2 b) :Calls Try.prog 50 #[pV a,pV b] w fun e w'=>e= .returned (pV (Wq a b))∧Over w w':=by
 refine Jh (m:=11) (Try.func50) J J (lb J) ?_;refine S3 ?_;refine aX (fun b1=> ?_);refine N1 ?_;refine aX (fun b2=> ?_);refine N1 ?_;refine aL (fun b3=> ?_);refine N6 ?_;refine a9 (jN kT J J (fun w h=>VE a b w ha hb)) ?_;refine S2 ?_;refine cZ (fun c1=> ?_) (fun c1=> ?_)
 ·refine S8 ?_;refine jG J (qO (k:=2) J jh J J) ?_
  intro w' hs
  exact⟨by rw [Wq,if_pos c1],hs.fin⟩
 ·refine S9 ?_;refine jG J (qO (k:=2) J jh J J) ?_
  intro w' hs
  exact⟨by rw [Wq,if_neg Om],hs.fin⟩
theorem U8 (m n:Int) : -1≤KN m*KN n∧KN m*KN n≤1:=by
 rcases um m with⟨_,e1⟩ |⟨_,e1⟩ |⟨_,e1⟩ <;>rcases um n with⟨_,e2⟩ |⟨_,e2⟩ |⟨_,e2⟩ <;>rw [e1,e2] <;>omega
abbrev B4 (r:Int×Pn) :Value:= .tuple #[.int .i64 r.1,pV r.2]
theorem Wx (k:Int) (p:Pn) {r:Int×Pn} (h:r= (k,p)) :Ending.returned (.tuple #[.int .i64 k,pV p]) =Ending.returned (B4 r) :=by rw [h]
theorem uC (a b c d:Pn) (w:World) (ha:bd2 a) (hb:bd2 b) (hc:bd2 c) (hd:bd2 d) :Calls Try.prog 32 #[pV a,pV b,pV c,pV d] w fun e w'=>e= .returned (B4 (qE a b c d))∧Over w w':=by
 have m1:=U8 (tn a b c) (tn a b d)
 have m2:=U8 (tn c d a) (tn c d b)
 have l1:= (vD ha hb).2.1
 have l2:= (vD hc hd).2.1
 have g1:= (vz ha hb).2.1
 have g2:= (vz hc hd).2.1
 refine Jh (m:=110) (Try.func32) J J (lb J) ?_;refine S3 ?_;refine aX (fun b1=> ?_);refine N1 ?_;refine aX (fun b2=> ?_);refine N1 ?_;refine aX (fun b3=> ?_);refine N1 ?_;refine aX (fun b4=> ?_);refine N2 ?_;refine aL (fun b5=> ?_);refine N3 ?_;refine qb 24 ?_;refine dK 0 ?_;refine dK 1 ?_;refine dK 2 ?_;refine dZ 3 J (jN kV J J (fun w h=>zo _ _ _ w (by assumption) (by assumption) (by assumption))) ?_;refine dZ 4 J (jN qL J J (fun w h=>Calls.still (Qv _ w))) ?_;refine dK 5 ?_;refine dK 6 ?_;refine dK 7 ?_;refine dZ 8 J (jN kV J J (fun w h=>zo _ _ _ w (by assumption) (by assumption) (by assumption))) ?_;refine dZ 9 J (jN qL J J (fun w h=>Calls.still (Qv _ w))) ?_;refine dK 10 ?_;refine dK 11 ?_;refine dK 12 ?_;refine dZ 13 J (jN kV J J (fun w h=>zo _ _ _ w (by assumption) (by assumption) (by assumption))) ?_;refine dZ 14 J (jN qL J J (fun w h=>Calls.still (Qv _ w))) ?_;refine dK 15 ?_;refine dK 16 ?_;refine dK 17 ?_;refine dZ 18 J (jN kV J J (fun w h=>zo _ _ _ w (by assumption) (by assumption) (by assumption))) ?_;refine dZ 19 J (jN qL J J (fun w h=>Calls.still (Qv _ w))) ?_;refine dK 20 ?_;refine dK 21 ?_;refine dK 22 ?_;refine dK 23 ?_;refine JI Kr ?_;refine S2 ?_;refine ky [(49, .bool (Wp a b c d))] (kK [4,5,6,7,8,9,10,11,12,13]) (fun L h_2=> ?_) ?_
 ·refine S4 ?_;refine cV 38 (fun g1=> ?_) (fun g1=> ?_)
  ·refine S6 ?_;refine cV 42 (fun g2=> ?_) (fun g2=> ?_)
   ·refine S6 ?_;refine cV 46 (fun g3=> ?_) (fun g3=> ?_)
    ·refine S6 ?_
     exact JB h_2 ⟨vb (by simp [Wp, *]),sz⟩ (u9 J)
    ·refine S4 ?_
     exact JB h_2 ⟨vb (by simp [Wp, *]),sz⟩ (u9 J)
   ·refine S8 ?_
    exact JB h_2 ⟨vb (by simp [Wp, *]),sz⟩ (u9 J)
  ·refine Di ?_
   exact JB h_2 ⟨vb (by simp [Wp, *]),sz⟩ (u9 J)
 ·refine v9 ?_;refine cZ (fun c1=> ?_) (fun c1=> ?_)
  ·refine S2 ?_;refine qb 9 ?_;refine dK 0 ?_;refine dK 1 ?_;refine dZ 2 J (jN Ke J J (fun w h=>wN _ _ w ha hb)) ?_;refine dK 3 ?_;refine dK 4 ?_;refine dZ 5 J (jN Ke J J (fun w h=>wN _ _ w hc hd)) ?_;refine dZ 6 J (jN kU J J (fun w h=>VG _ _ w l1 l2)) ?_;refine Qs (i:=7) J Dc Kr J ?_;refine aL (fun b6=> ?_);refine n9 ?_;refine qo (u9 J) ?_;refine Qs (i:=8) J Dc Kr J ?_;refine S1 ?_;refine qo (u9 J) ?_;refine JI Kr ?_;refine S3 ?_;refine qb 9 ?_;refine dK 0 ?_;refine dK 1 ?_;refine dZ 2 J (jN kU J J (fun w h=>VG _ _ w ha hb)) ?_;refine dK 3 ?_;refine dK 4 ?_;refine dZ 5 J (jN kU J J (fun w h=>VG _ _ w hc hd)) ?_;refine dZ 6 J (jN Ke J J (fun w h=>wN _ _ w g1 g2)) ?_;refine Qs (i:=7) J Dc Kr J ?_;refine aL (fun b7=> ?_);refine n9 ?_;refine qo (u9 J) ?_;refine Qs (i:=8) J Dc Kr J ?_;refine S1 ?_;refine qo (u9 J) ?_;refine JI Kr ?_;refine S6 ?_;refine a9 (jN kT J J (fun w h=>VE _ _ w (vz l1 l2).2.1 (vD g1 g2).2.1)) ?_;refine S7 ?_;refine cZ (fun c2=> ?_) (fun c2=> ?_)
   ·refine S2 ?_;refine Qn 3 [4] ?_;refine dK 0 ?_;refine dK 1 ?_;refine Qs (i:=2) J Dc Kr J ?_;refine S1 ?_;refine qo (uw [4] J) ?_;refine JI Kr ?_;refine S5 ?_;refine qS J (.tmp J) (qO (k:=4) J jh J J) ?_
    intro w' hs
    exact⟨Wx 1 (vq a b c d) (by rw [qE,if_pos c1,if_pos (show Wi (vq a b c d) (KC a b c d) =0 from c2)]),hs.fin⟩
   ·refine S5 ?_;refine cZ (fun c3=> ?_) (fun c3=> ?_)
    ·refine S2 ?_;refine Qn 3 [4] ?_;refine dK 0 ?_;refine dK 1 ?_;refine Qs (i:=2) J Dc Kr J ?_;refine S1 ?_;refine qo (uw [4] J) ?_;refine JI Kr ?_;refine S5 ?_;refine qS J (.tmp J) (qO (k:=4) J jh J J) ?_
     intro w' hs
     exact⟨Wx 3 (vq a b c d) (by rw [qE,if_pos c1,if_neg (show¬Wi (vq a b c d) (KC a b c d) =0 from c2),if_pos (show Wi (vq a b c d) (KC a b c d) = -1 from c3)]),hs.fin⟩
    ·refine S5 ?_;refine a9 (JU J J (vU)) ?_;refine S6 ?_;refine qS J (.tmp J) (qO (k:=4) J jh J J) ?_
     intro w' hs
     exact⟨Wx 0 (0,0) (by rw [qE,if_pos c1,if_neg (show¬Wi (vq a b c d) (KC a b c d) =0 from c2),if_neg (show¬Wi (vq a b c d) (KC a b c d) = -1 from c3)]),hs.fin⟩
  ·refine S3 ?_;refine ky [(83, .bool (J4 a b c d))] (kK [4,5,6,7,8,9]) (fun L h_11=> ?_) ?_
   ·refine S6 ?_;refine cV 78 (fun g4=> ?_) (fun g4=> ?_)
    ·refine Dg ?_
     exact JB h_11 ⟨vb (by simp [J4, *] <;>omega),sz⟩ (u9 J)
    ·refine S6 ?_
     exact JB h_11 ⟨vb (by simp [J4, *] <;>omega),sz⟩ (u9 J)
   ·refine v9 ?_;refine cZ (fun c4=> ?_) (fun c4=> ?_)
    ·refine S2 ?_;refine a9 (JU J J (vU)) ?_;refine S6 ?_;refine qS J (.tmp J) (qO (k:=4) J jh J J) ?_
     intro w' hs
     exact⟨Wx 2 (0,0) (by rw [qE,if_neg (by simp [c1]),if_pos c4]),hs.fin⟩
    ·refine S9 ?_;refine a9 (jN Q3 J J (fun w h=>Ui _ _ _ w (by assumption) (by assumption) (by assumption))) ?_;refine S2 ?_;refine cZ (fun c5=> ?_) (fun c5=> ?_)
     ·refine S2 ?_;refine Qn 3 [4] ?_;refine dK 0 ?_;refine dK 1 ?_;refine Qs (i:=2) J Dc Kr J ?_;refine S1 ?_;refine qo (uw [4] J) ?_;refine JI Kr ?_;refine S4 ?_;refine qS J (.tmp J) (qO (k:=4) J jh J J) ?_
      intro w' hs
      exact⟨Wx 1 c (by rw [qE,if_neg (by simp [c1]),if_neg (by simp [c4]),if_pos c5]),hs.fin⟩
     ·refine S5 ?_;refine a9 (jN Q3 J J (fun w h=>Ui _ _ _ w (by assumption) (by assumption) (by assumption))) ?_;refine S2 ?_;refine cZ (fun c6=> ?_) (fun c6=> ?_)
      ·refine S2 ?_;refine Qn 3 [4] ?_;refine dK 0 ?_;refine dK 1 ?_;refine Qs (i:=2) J Dc Kr J ?_;refine S1 ?_;refine qo (uw [4] J) ?_;refine JI Kr ?_;refine S4 ?_;refine qS J (.tmp J) (qO (k:=4) J jh J J) ?_
       intro w' hs
       exact⟨Wx 1 d (by rw [qE,if_neg (by simp [c1]),if_neg (by simp [c4]),if_neg (by simp [c5]),if_pos c6]),hs.fin⟩
      ·refine S5 ?_;refine a9 (jN Q3 J J (fun w h=>Ui _ _ _ w (by assumption) (by assumption) (by assumption))) ?_;refine S2 ?_;refine cZ (fun c7=> ?_) (fun c7=> ?_)
       ·refine S2 ?_;refine Qn 3 [4] ?_;refine dK 0 ?_;refine dK 1 ?_;refine Qs (i:=2) J Dc Kr J ?_;refine S1 ?_;refine qo (uw [4] J) ?_;refine JI Kr ?_;refine S4 ?_;refine qS J (.tmp J) (qO (k:=4) J jh J J) ?_
        intro w' hs
        exact⟨Wx 1 a (by rw [qE,if_neg (by simp [c1]),if_neg (by simp [c4]),if_neg (by simp [c5]),if_neg (by simp [c6]),if_pos c7]),hs.fin⟩
       ·refine S5 ?_;refine a9 (jN Q3 J J (fun w h=>Ui _ _ _ w (by assumption) (by assumption) (by assumption))) ?_;refine S2 ?_;refine cZ (fun c8=> ?_) (fun c8=> ?_)
        ·refine S2 ?_;refine Qn 3 [4] ?_;refine dK 0 ?_;refine dK 1 ?_;refine Qs (i:=2) J Dc Kr J ?_;refine S1 ?_;refine qo (uw [4] J) ?_;refine JI Kr ?_;refine S4 ?_;refine qS J (.tmp J) (qO (k:=4) J jh J J) ?_
         intro w' hs
         exact⟨Wx 1 b (by rw [qE,if_neg (by simp [c1]),if_neg (by simp [c4]),if_neg (by simp [c5]),if_neg (by simp [c6]),if_neg (by simp [c7]),if_pos c8]),hs.fin⟩
        ·refine S5 ?_;refine a9 (JU J J (vU)) ?_;refine S5 ?_;refine qS J (.tmp J) (qO (k:=4) J jh J J) ?_
         intro w' hs
         exact⟨Wx 0 (0,0) (by rw [qE,if_neg (by simp [c1]),if_neg (by simp [c4]),if_neg (by simp [c5]),if_neg (by simp [c6]),if_neg (by simp [c7]),if_neg (by simp [c8])]),hs.fin⟩
end Go.Proofs.Ytpncbbcmoiiipaa
