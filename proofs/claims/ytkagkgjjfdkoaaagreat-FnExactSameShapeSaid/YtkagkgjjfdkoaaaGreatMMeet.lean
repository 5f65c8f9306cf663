import Derived.Test.YtkagkgjjfdkoaaaGreatMOn
import Derived.Test.YtkagkgjjfdkoaaaGreatMReg3
set_option linter.unusedVariables false
set_option linter.unusedSimpArgs false
namespace Go.Proofs.YtkagkgjjfdkoaaaGreat
open Go Go.RowKit
set_option maxRecDepth 100000
set_option maxHeartbeats 4000000
open Go.RowKit
abbrev Pn:=Int×Int
def tn (a b c:Pn) :Int:=Kd a.1 a.2 b.1 b.2 c.1 c.2
def uX (a b p:Pn) :Bool:=EU a.1 a.2 b.1 b.2 p.1 p.2
def bd2 (p:Pn) :Prop:= (-262144≤p.1∧p.1≤262144)∧-262144≤p.2∧p.2≤262144
def key (p:Pn) :Int:=p.1*1048576+p.2
theorem jbA {p q:Pn} (hp:bd2 p) (hq:bd2 q) (h:key p=key q) :p=q:=by
 obtain ⟨x,y⟩ :=p;obtain ⟨x',y'⟩ :=q
 unfold bd2 key at*
 simp only at*
 have:x=x':=by omega
 subst this
 have:y=y':=by omega
 rw [this]
theorem Kf {a b p:Pn} :uX a b p=true↔tn a b p=0∧(min a.1 b.1≤p.1∧p.1≤max a.1 b.1)∧min a.2 b.2≤p.2∧p.2≤max a.2 b.2:=by
 simp only [uX,EU,tn,jeF,beq_iff_eq,decide_eq_true_eq]
 constructor
 ·rintro⟨⟨⟨⟨h1,h2⟩,h3⟩,h4⟩,h5⟩;exact⟨h1,⟨h2,h3⟩,h4,h5⟩
 ·rintro⟨h1,⟨h2,h3⟩,h4,h5⟩;exact⟨⟨⟨⟨h1,h2⟩,h3⟩,h4⟩,h5⟩
theorem IU {a b:Int} (h:a*b=0) :a=0∨b=0:=Int.mul_eq_zero.1 h
theorem par {x1 x2 y1 y2 u1 u2:Int} (hx:x1*u2- x2*u1=0) (hy:y1*u2- y2*u1=0) (hu:¬(u1=0∧u2=0)) :x1*y2- x2*y1=0:=by
 have e1:u1* (x1*y2- x2*y1) =0:=by grind
 have e2:u2* (x1*y2- x2*y1) =0:=by grind
 rcases IU e1 with h | h
 ·rcases IU e2 with h' | h'
  ·exact absurd ⟨h,h'⟩ hu
  ·exact h'
 ·exact h
theorem jdJ {a b c d p q:Pn} (hp:uX a b p=true) (hp':uX c d p=true) (hq:uX a b q=true) (hq':uX c d q=true) (hne:p≠q) :
  tn a b c=0∧tn a b d=0∧tn c d a=0∧tn c d b=0:=by
 rw [Kf] at hp hp' hq hq'
 obtain ⟨a1,a2⟩ :=a;obtain ⟨b1,b2⟩ :=b;obtain ⟨c1,c2⟩ :=c;obtain ⟨d1,d2⟩ :=d;obtain ⟨p1,p2⟩ :=p;obtain ⟨q1,q2⟩ :=q
 simp only [tn,Kd] at*
 have hu:¬(q1- p1=0∧q2- p2=0) :=fun h=>hne (by rw [show p1=q1 by omega,show p2=q2 by omega])
 have hab: (b1- a1) * (q2- p2) - (b2- a2) * (q1- p1) =0:=by grind
 have hcd: (d1- c1) * (q2- p2) - (d2- c2) * (q1- p1) =0:=by grind
 have hpar:=par hab hcd hu
 have hcp: (c1- p1) * (q2- p2) - (c2- p2) * (q1- p1) =0:=by
  by_cases hz:d1- c1=0∧d2- c2=0
  ·have:p1=q1∧p2=q2:=by omega
   exact absurd (by rw [this.1,this.2]) hne
  ·have h1: (c1- p1) * (d2- c2) - (c2- p2) * (d1- c1) =0:=by grind
   have h2: (q1- p1) * (d2- c2) - (q2- p2) * (d1- c1) =0:=by grind
   exact par h1 h2 hz
 have hap: (a1- p1) * (q2- p2) - (a2- p2) * (q1- p1) =0:=by
  by_cases hz:b1- a1=0∧b2- a2=0
  ·have:p1=q1∧p2=q2:=by omega
   exact absurd (by rw [this.1,this.2]) hne
  ·have h1: (a1- p1) * (b2- a2) - (a2- p2) * (b1- a1) =0:=by grind
   have h2: (q1- p1) * (b2- a2) - (q2- p2) * (b1- a1) =0:=by grind
   exact par h1 h2 hz
 have k1:=par hab hcp hu
 have k2:=par hcd hap hu
 refine⟨?_,?_,?_,?_⟩ <;>grind
theorem EV {a b p:Pn} (ha:bd2 a) (hb:bd2 b) (hp:bd2 p) (h:tn a b p=0) :uX a b p=true↔min (key a) (key b)≤key p∧key p≤max (key a) (key b) :=by
 rw [Kf]
 obtain ⟨a1,a2⟩ :=a;obtain ⟨b1,b2⟩ :=b;obtain ⟨p1,p2⟩ :=p
 simp only [tn,Kd,key,bd2] at*
 constructor
 ·rintro⟨_,h2,h3⟩
  rcases jfA a1 b1 with hx | hx | hx
  ·by_cases e:p1=a1
   ·subst e
    have: (b1- p1) * (p2- a2) =0:=by grind
    rcases IU this with h4 | h4<;>omega
   ·by_cases e:p1=b1
    ·subst e
     have: (p1- a1) * (p2- b2) =0:=by grind
     rcases IU this with h4 | h4<;>omega
    ·omega
  ·omega
  ·by_cases e:p1=a1
   ·subst e
    have: (b1- p1) * (p2- a2) =0:=by grind
    rcases IU this with h4 | h4<;>omega
   ·by_cases e:p1=b1
    ·subst e
     have: (p1- a1) * (p2- b2) =0:=by grind
     rcases IU this with h4 | h4<;>omega
    ·omega
 ·intro h2
  have hx:min a1 b1≤p1∧p1≤max a1 b1:=by omega
  refine⟨h,hx,?_⟩
  rcases jfA a1 b1 with hl | hl | hl
  ·have k1:0≤p1- a1:=by omega
   have k2:p1- a1≤b1- a1:=by omega
   have e: (b1- a1) * (p2- a2) = (b2- a2) * (p1- a1) :=by omega
   by_cases hy:a2≤b2
   ·have g1:0≤(b2- a2) * (p1- a1) :=jfl (by omega) k1
    have g2: (b2- a2) * (p1- a1)≤(b2- a2) * (b1- a1) :=jfg k2 (by omega)
    have g3: (b1- a1) * (p2- a2)≤(b1- a1) * (b2- a2) :=by rw [e,jfn (b1- a1)];exact g2
    have g4: (b1- a1) *0≤(b1- a1) * (p2- a2) :=by rw [e];simpa using g1
    have:=jfL g3 (by omega)
    have:=jfL g4 (by omega)
    omega
   ·have g1:0≤(a2- b2) * (p1- a1) :=jfl (by omega) k1
    have g2: (a2- b2) * (p1- a1)≤(a2- b2) * (b1- a1) :=jfg k2 (by omega)
    have e': (b1- a1) * (a2- p2) = (a2- b2) * (p1- a1) :=by grind
    have g3: (b1- a1) * (a2- p2)≤(b1- a1) * (a2- b2) :=by rw [e',jfn (b1- a1)];exact g2
    have g4: (b1- a1) *0≤(b1- a1) * (a2- p2) :=by rw [e'];simpa using g1
    have:=jfL g3 (by omega)
    have:=jfL g4 (by omega)
    omega
  ·omega
  ·have k1:0≤a1- p1:=by omega
   have k2:a1- p1≤a1- b1:=by omega
   by_cases hy:a2≤b2
   ·have g1:0≤(b2- a2) * (a1- p1) :=jfl (by omega) k1
    have g2: (b2- a2) * (a1- p1)≤(b2- a2) * (a1- b1) :=jfg k2 (by omega)
    have e': (a1- b1) * (p2- a2) = (b2- a2) * (a1- p1) :=by grind
    have g3: (a1- b1) * (p2- a2)≤(a1- b1) * (b2- a2) :=by rw [e',jfn (a1- b1)];exact g2
    have g4: (a1- b1) *0≤(a1- b1) * (p2- a2) :=by rw [e'];simpa using g1
    have:=jfL g3 (by omega)
    have:=jfL g4 (by omega)
    omega
   ·have g1:0≤(a2- b2) * (a1- p1) :=jfl (by omega) k1
    have g2: (a2- b2) * (a1- p1)≤(a2- b2) * (a1- b1) :=jfg k2 (by omega)
    have e': (a1- b1) * (a2- p2) = (a2- b2) * (a1- p1) :=by grind
    have g3: (a1- b1) * (a2- p2)≤(a1- b1) * (a2- b2) :=by rw [e',jfn (a1- b1)];exact g2
    have g4: (a1- b1) *0≤(a1- b1) * (a2- p2) :=by rw [e'];simpa using g1
    have:=jfL g3 (by omega)
    have:=jfL g4 (by omega)
    omega
def Z6 (p q:Pn) :Int:=if p.1=q.1 then Wh (p.2- q.2) else Wh (p.1- q.1)
theorem W9 (n:Int) : (n<0∧Wh n= -1)∨(n=0∧Wh n=0)∨(0<n∧Wh n=1) :=by unfold Wh;split<;> (try split) <;>omega
theorem Lv {p q:Pn} (hp:bd2 p) (hq:bd2 q) :Z6 p q=Wh (key p- key q) :=by
 obtain ⟨x,y⟩ :=p;obtain ⟨x',y'⟩ :=q
 unfold bd2 Z6 key at*
 simp only at*
 have h1:=W9 (y- y');have h2:=W9 (x- x');have h3:=W9 (x*1048576+y- (x'*1048576+y'))
 split<;>omega
def xw (a b:Pn) :Pn:=if Z6 a b≤0 then a else b
def xj (a b:Pn) :Pn:=if 0≤Z6 a b then a else b
theorem UJ {p q:Pn} (hp:bd2 p) (hq:bd2 q) :key (xw p q) =min (key p) (key q)∧bd2 (xw p q)∧(xw p q=p∨xw p q=q) :=by
 unfold xw;rw [Lv hp hq]
 have:=W9 (key p- key q)
 split
 ·exact⟨by omega,hp, .inl rfl⟩
 ·exact⟨by omega,hq, .inr rfl⟩
theorem UH {p q:Pn} (hp:bd2 p) (hq:bd2 q) :key (xj p q) =max (key p) (key q)∧bd2 (xj p q)∧(xj p q=p∨xj p q=q) :=by
 unfold xj;rw [Lv hp hq]
 have:=W9 (key p- key q)
 split
 ·exact⟨by omega,hp, .inl rfl⟩
 ·exact⟨by omega,hq, .inr rfl⟩
def xe (a b c d:Pn) :Bool:= (Wh (tn a b c) ==0) && (Wh (tn a b d) ==0) && (Wh (tn c d a) ==0) && (Wh (tn c d b) ==0)
def qM (a b c d:Pn) :Bool:=decide (Wh (tn a b c) *Wh (tn a b d) <0) &&decide (Wh (tn c d a) *Wh (tn c d b) <0)
def Us (a b c d:Pn) :Pn:=xj (xw a b) (xw c d)
def uh (a b c d:Pn) :Pn:=xw (xj a b) (xj c d)
def Ud (a b c d:Pn) :Int×Pn:=
 if xe a b c d=true then
  (if Z6 (Us a b c d) (uh a b c d) =0 then(1,Us a b c d) else if Z6 (Us a b c d) (uh a b c d) = -1 then(3,Us a b c d) else(0,(0,0)))
 else if qM a b c d=true then(2,(0,0))
 else if uX a b c=true then(1,c) else if uX a b d=true then(1,d) else if uX c d a=true then(1,a) else if uX c d b=true then(1,b) else(0,(0,0))
def KC (a b c d p:Pn) :Bool:=uX a b p&&uX c d p
def He (a b c d:Pn) (out:List Pn) (p:Pn) :List Pn:=if(!(out.contains p) &&KC a b c d p) =true then out++ [p] else out
def Q0 (a b c d:Pn) :List Pn:=He a b c d (He a b c d (He a b c d (He a b c d [] a) b) c) d
def Q1 (a b c d:Pn) :Int:=if(Q0 a b c d).length=0 then(if qM a b c d=true then 2 else 0) else if(Q0 a b c d).length=1 then 1 else 3
theorem Ck {a b c d p q:Pn} {out:List Pn} :q∈He a b c d out p↔q∈out∨(q=p∧KC a b c d p=true) :=by
 unfold He
 split
 ·rename_i h
  simp only [jeF] at h
  simp [h.2]
 ·rename_i h
  simp only [jeF,jfq,not_and,Bool.not_eq_true] at h
  constructor
  ·exact .inl
  ·rintro(h1 |⟨rfl,h1⟩)
   ·exact h1
   ·by_cases hc:out.contains q=true
    ·simpa using hc
    ·rw [h (by simpa using hc)] at h1;cases h1
theorem U9 {a b c d p:Pn} {out:List Pn} (h:out.Nodup) : (He a b c d out p).Nodup:=by
 unfold He
 split
 ·rename_i h'
  simp only [jeF,jfq] at h'
  rw [List.nodup_append]
  exact⟨h,by simp,fun x hx y hy e=>by simp at hy;subst hy;subst e;have:=h'.1;simp at this;exact this hx⟩
 ·exact h
theorem Q9 {a b c d q:Pn} :q∈Q0 a b c d↔(q=a∨q=b∨q=c∨q=d)∧KC a b c d q=true:=by
 unfold Q0
 simp only [Ck,jfQ,false_or]
 constructor
 ·rintro(((⟨rfl,h⟩ |⟨rfl,h⟩) |⟨rfl,h⟩) |⟨rfl,h⟩)
  ·exact⟨.inl rfl,h⟩
  ·exact⟨.inr (.inl rfl),h⟩
  ·exact⟨.inr (.inr (.inl rfl)),h⟩
  ·exact⟨.inr (.inr (.inr rfl)),h⟩
 ·rintro⟨rfl | rfl | rfl | rfl,h⟩
  ·exact .inl (.inl (.inl ⟨rfl,h⟩))
  ·exact .inl (.inl (.inr ⟨rfl,h⟩))
  ·exact .inl (.inr ⟨rfl,h⟩)
  ·exact .inr ⟨rfl,h⟩
theorem Gz (a b c d:Pn) : (Q0 a b c d).Nodup:=U9 (U9 (U9 (U9 List.nodup_nil)))
theorem jbC {l:List Pn} (h:∀q,q∉l) :l.length=0:=by
 cases l with
 | nil=>rfl
 | cons a r=>exact absurd (jfd) (h a)
theorem Pf {l:List Pn} {p:Pn} (hn:l.Nodup) (hp:p∈l) (h:∀q∈l,q=p) :l= [p] :=by
 match l,hn,hp,h with
 | [x],_,_,h=>rw [h x (by simp)]
 | x::y::r,hn,_,h=>
  have h1:=h x (by simp);have h2:=h y (by simp)
  rw [h1,h2] at hn
  simp at hn
theorem Eo {l:List Pn} {p q:Pn} (hp:p∈l) (hq:q∈l) (hne:p≠q) :¬l.length=0∧¬l.length=1:=by
 match l,hp,hq with
 | [x],hp,hq=>simp at hp hq;exact absurd (hp.trans hq.symm) hne
 | x::y::r,_,_=>simp
theorem xX (a b:Pn) :uX a b a=true:=by rw [Kf];simp only [tn,Kd];refine⟨by grind,?_⟩;omega
theorem HX (a b:Pn) :uX a b b=true:=by rw [Kf];simp only [tn,Kd];refine⟨by grind,?_⟩;omega
theorem Nd {n:Int} : (Wh n==0) =true↔n=0:=by have:=W9 n;simp;omega
theorem YZ {m n:Int} :Wh m*Wh n<0↔(m<0∧0<n)∨(0<m∧n<0) :=by
 rcases W9 m with⟨h1,e1⟩ |⟨h1,e1⟩ |⟨h1,e1⟩ <;>rcases W9 n with⟨h2,e2⟩ |⟨h2,e2⟩ |⟨h2,e2⟩ <;>rw [e1,e2] <;>omega
theorem Bh {a b c d:Pn} (ha:bd2 a) (hb:bd2 b) (hc:bd2 c) (hd:bd2 d) :
  (Ud a b c d).1=Q1 a b c d∧((Ud a b c d).1=1→Q0 a b c d= [(Ud a b c d).2]) :=by
 unfold Ud Q1
 by_cases hf:xe a b c d=true
 ·rw [if_pos hf]
  simp only [xe,jeF,Nd] at hf
  obtain ⟨⟨⟨f1,f2⟩,f3⟩,f4⟩ :=hf
  have f5:tn a b a=0:=by simp only [tn,Kd];grind
  have f6:tn a b b=0:=by simp only [tn,Kd];grind
  have f7:tn c d c=0:=by simp only [tn,Kd];grind
  have f8:tn c d d=0:=by simp only [tn,Kd];grind
  obtain ⟨l1,l2,l3⟩ :=UJ ha hb
  obtain ⟨l4,l5,l6⟩ :=UJ hc hd
  obtain ⟨g1,g2,g3⟩ :=UH ha hb
  obtain ⟨g4,g5,g6⟩ :=UH hc hd
  obtain ⟨m1,m2,m3⟩ :=UH l2 l5
  obtain ⟨m4,m5,m6⟩ :=UJ g2 g5
  have hns:qM a b c d=false:=by simp only [qM,f1,f3];simp [Wh]
  have key1:∀q,(q=a∨q=b∨q=c∨q=d)→(KC a b c d q=true↔key (Us a b c d)≤key q∧key q≤key (uh a b c d)) :=by
   intro q hq
   have hqb:bd2 q:=by rcases hq with rfl | rfl | rfl | rfl<;>assumption
   have t1:tn a b q=0:=by rcases hq with rfl | rfl | rfl | rfl<;>assumption
   have t2:tn c d q=0:=by rcases hq with rfl | rfl | rfl | rfl<;>assumption
   simp only [KC,jeF]
   rw [EV ha hb hqb t1,EV hc hd hqb t2]
   show _↔key (xj (xw a b) (xw c d))≤key q∧key q≤key (xw (xj a b) (xj c d))
   omega
  have hlow:Us a b c d=a∨Us a b c d=b∨Us a b c d=c∨Us a b c d=d:=by
   unfold Us
   rcases m3 with e | e<;>rw [e]
   ·rcases l3 with e | e<;>rw [e] <;>simp
   ·rcases l6 with e | e<;>rw [e] <;>simp
  have hhigh:uh a b c d=a∨uh a b c d=b∨uh a b c d=c∨uh a b c d=d:=by
   unfold uh
   rcases m6 with e | e<;>rw [e]
   ·rcases g3 with e | e<;>rw [e] <;>simp
   ·rcases g6 with e | e<;>rw [e] <;>simp
  have hlb:bd2 (Us a b c d) :=m2
  have hhb:bd2 (uh a b c d) :=m5
  rw [Lv hlb hhb]
  rcases W9 (key (Us a b c d) - key (uh a b c d)) with⟨k1,e⟩ |⟨k1,e⟩ |⟨k1,e⟩
  ·rw [e,if_neg (by omega),if_pos rfl]
   have h1:Us a b c d∈Q0 a b c d:=Q9.2 ⟨hlow,(key1 _ hlow).2 (by omega)⟩
   have h2:uh a b c d∈Q0 a b c d:=Q9.2 ⟨hhigh,(key1 _ hhigh).2 (by omega)⟩
   obtain ⟨n1,n2⟩ :=Eo h1 h2 (fun e=>by rw [e] at k1;omega)
   rw [if_neg n1,if_neg n2]
   exact⟨rfl,fun h=>absurd h (by simp)⟩
  ·rw [e,if_pos rfl]
   have h1:Us a b c d∈Q0 a b c d:=Q9.2 ⟨hlow,(key1 _ hlow).2 (by omega)⟩
   have hl:=Pf (Gz a b c d) h1 fun q hq=>by
    obtain ⟨hq1,hq2⟩ :=Q9.1 hq
    have hqb:bd2 q:=by rcases hq1 with rfl | rfl | rfl | rfl<;>assumption
    have:= (key1 q hq1).1 hq2
    exact jbA hqb hlb (by omega)
   rw [hl]
   exact⟨rfl,fun _=>rfl⟩
  ·rw [e,if_neg (by omega),if_neg (by omega)]
   have hl:=jbC (l:=Q0 a b c d) fun q hq=>by
    obtain ⟨hq1,hq2⟩ :=Q9.1 hq
    have:= (key1 q hq1).1 hq2
    omega
   rw [if_pos hl,hns]
   exact⟨rfl,fun h=>absurd h (by simp)⟩
 ·rw [if_neg hf]
  have huniq:∀p q,KC a b c d p=true→KC a b c d q=true→p=q:=by
   intro p q hp hq
   simp only [KC,jeF] at hp hq
   by_cases e:p=q
   ·exact e
   ·obtain ⟨t1,t2,t3,t4⟩ :=jdJ hp.1 hp.2 hq.1 hq.2 e
    exact absurd (by simp only [xe,jeF,Nd];exact⟨⟨⟨t1,t2⟩,t3⟩,t4⟩) hf
  have one:∀p,(p=a∨p=b∨p=c∨p=d)→KC a b c d p=true→Q0 a b c d= [p] :=fun p hp hb=>
   Pf (Gz a b c d) (Q9.2 ⟨hp,hb⟩) fun q hq=>huniq q p (Q9.1 hq).2 hb
  by_cases hs:qM a b c d=true
  ·rw [if_pos hs]
   have hs':=hs
   simp only [qM,jeF,decide_eq_true_eq,YZ] at hs'
   have hl:=jbC (l:=Q0 a b c d) fun q hq=>by
    obtain ⟨hq1,hq2⟩ :=Q9.1 hq
    simp only [KC,jeF,Kf] at hq2
    rcases hq1 with rfl | rfl | rfl | rfl<;>omega
   rw [if_pos hl,if_pos hs]
   exact⟨rfl,fun h=>absurd h (by simp)⟩
  ·rw [if_neg hs]
   by_cases h1:uX a b c=true
   ·rw [if_pos h1,one c (by simp) (by simp [KC,h1,xX])]
    exact⟨rfl,fun _=>rfl⟩
   rw [if_neg h1]
   by_cases h2:uX a b d=true
   ·rw [if_pos h2,one d (by simp) (by simp [KC,h2,HX])]
    exact⟨rfl,fun _=>rfl⟩
   rw [if_neg h2]
   by_cases h3:uX c d a=true
   ·rw [if_pos h3,one a (by simp) (by simp [KC,h3,xX])]
    exact⟨rfl,fun _=>rfl⟩
   rw [if_neg h3]
   by_cases h4:uX c d b=true
   ·rw [if_pos h4,one b (by simp) (by simp [KC,h4,HX])]
    exact⟨rfl,fun _=>rfl⟩
   rw [if_neg h4]
   have hl:=jbC (l:=Q0 a b c d) fun q hq=>by
    obtain ⟨hq1,hq2⟩ :=Q9.1 hq
    simp only [KC,jeF] at hq2
    rcases hq1 with rfl | rfl | rfl | rfl
    ·exact h3 hq2.2
    ·exact h4 hq2.2
    ·exact h1 hq2.1
    ·exact h2 hq2.1
   rw [if_pos hl,if_neg hs]
   exact⟨rfl,fun h=>absurd h (by simp)⟩
def WA (a b c d:Pn) :Bool:=decide (max a.1 b.1<min c.1 d.1) || decide (max c.1 d.1<min a.1 b.1) || decide (max a.2 b.2<min c.2 d.2) || decide (max c.2 d.2<min a.2 b.2)
theorem jdp {s t x y z:Int} (hs:s<0) (ht:0<t) (hx:x<z) (hy:y<z) :t*x- s*y< (t- s) *z:=by
 have h1:t*x<t*z:=jgk hx ht
 have h2: -s*y< -s*z:=jgk hy (by omega)
 grind
theorem jdo {s t x y z:Int} (hs:s<0) (ht:0<t) (hx:z≤x) (hy:z≤y) : (t- s) *z≤t*x- s*y:=by
 have h1:t*z≤t*x:=jfg hx (by omega)
 have h2: -s*z≤-s*y:=jfg hy (by omega)
 grind
theorem zq {t1 t2 t3 t4 x y z u m:Int} (h12: (t1<0∧0<t2)∨(0<t1∧t2<0)) (h34: (t3<0∧0<t4)∨(0<t3∧t4<0))
  (e: (t4*x- t3*y) * (t2- t1) = (t2*z- t1*u) * (t4- t3)) :¬(x<m∧y<m∧m≤z∧m≤u) :=by
 rintro⟨h1,h2,h3,h4⟩
 have key:∀s t s' t':Int,s<0→0<t→s'<0→0<t'→(t'*x- s'*y) * (t- s) = (t*z- s*u) * (t'- s')→False:=by
  intro s t s' t' a1 a2 a3 a4 e
  have k1:=jdp a3 a4 h1 h2
  have k2:=jdo a1 a2 h3 h4
  have k3: (t'*x- s'*y) * (t- s) < ((t'- s') *m) * (t- s) :=jfh k1 (by omega)
  have k4: ((t- s) *m) * (t'- s')≤(t*z- s*u) * (t'- s') :=jeH k2 (by omega)
  have k5: ((t'- s') *m) * (t- s) = ((t- s) *m) * (t'- s') :=by grind
  omega
 rcases h12 with⟨a1,a2⟩ |⟨a1,a2⟩ <;>rcases h34 with⟨a3,a4⟩ |⟨a3,a4⟩
 ·exact key t1 t2 t3 t4 a1 a2 a3 a4 e
 ·exact key t1 t2 (-t3) (-t4) a1 a2 (by omega) (by omega) (by grind)
 ·exact key (-t1) (-t2) t3 t4 (by omega) (by omega) a3 a4 (by grind)
 ·exact key (-t1) (-t2) (-t3) (-t4) (by omega) (by omega) (by omega) (by omega) (by grind)
theorem RJ {a b c d:Pn} (h:WA a b c d=true) :Q1 a b c d=0:=by
 have hne:∀q,KC a b c d q=false:=by
  intro q
  cases hq:KC a b c d q
  ·rfl
  ·simp only [KC,jeF,Kf] at hq
   simp only [WA,jfs,decide_eq_true_eq] at h
   omega
 have hl:=jbC (l:=Q0 a b c d) fun q hq=>by
  have:= (Q9.1 hq).2
  rw [hne] at this
  cases this
 unfold Q1
 rw [if_pos hl,if_neg]
 intro hs
 simp only [qM,jeF,decide_eq_true_eq,YZ] at hs
 obtain ⟨h1,h2⟩ :=hs
 simp only [WA,jfs,decide_eq_true_eq] at h
 obtain ⟨a1,a2⟩ :=a;obtain ⟨b1,b2⟩ :=b;obtain ⟨c1,c2⟩ :=c;obtain ⟨d1,d2⟩ :=d
 simp only [tn] at h1 h2
 simp only at h
 have ex: (Kd c1 c2 d1 d2 b1 b2*a1- Kd c1 c2 d1 d2 a1 a2*b1) * (Kd a1 a2 b1 b2 d1 d2- Kd a1 a2 b1 b2 c1 c2) = (Kd a1 a2 b1 b2 d1 d2*c1- Kd a1 a2 b1 b2 c1 c2*d1) * (Kd c1 c2 d1 d2 b1 b2- Kd c1 c2 d1 d2 a1 a2) :=by
  simp only [Kd];grind
 have ey: (Kd c1 c2 d1 d2 b1 b2*a2- Kd c1 c2 d1 d2 a1 a2*b2) * (Kd a1 a2 b1 b2 d1 d2- Kd a1 a2 b1 b2 c1 c2) = (Kd a1 a2 b1 b2 d1 d2*c2- Kd a1 a2 b1 b2 c1 c2*d2) * (Kd c1 c2 d1 d2 b1 b2- Kd c1 c2 d1 d2 a1 a2) :=by
  simp only [Kd];grind
 rcases h with((h | h) | h) | h
 ·exact zq (m:=min c1 d1) h1 h2 ex (by omega)
 ·exact zq (m:=min a1 b1) h2 h1 ex.symm (by omega)
 ·exact zq (m:=min c2 d2) h1 h2 ey (by omega)
 ·exact zq (m:=min a2 b2) h2 h1 ey.symm (by omega)
def xZ (a b c d:Pn) :Bool:=
 if WA a b c d=true then true
 else if Q1 a b c d=2 then false
 else if Q1 a b c d=1 then !(decide (a≠c) &&decide (a≠d) &&decide (b≠c) &&decide (b≠d))
 else if Q1 a b c d=3 then decide ((a=c∧b=d)∨(a=d∧b=c))
 else true
abbrev pV (p:Pn) :Value:= .agg #[.int .i64 p.1, .int .i64 p.2]
theorem vG {p:Pn} (h:bd2 p) :Ym p.1∧Ym p.2:=by
 obtain ⟨⟨h1,h2⟩,h3,h4⟩ :=h
 exact⟨⟨by omega,by omega⟩,by omega,by omega⟩
theorem ZR (a b c:Pn) (w:World) (ha:bd2 a) (hb:bd2 b) (hc:bd2 c) :Calls Tryz.prog 108 #[pV a,pV b,pV c] w fun e w'=>e= .returned (.int .i64 (tn a b c))∧Over w w':=by
 obtain ⟨a1,a2⟩ :=vG ha;obtain ⟨b1,b2⟩ :=vG hb;obtain ⟨c1,c2⟩ :=vG hc
 exact Xr a.1 a.2 b.1 b.2 c.1 c.2 w a1.1 a1.2 a2.1 a2.2 b1.1 b1.2 b2.1 b2.2 c1.1 c1.2 c2.1 c2.2
theorem HW (a b c:Pn) (w:World) (ha:bd2 a) (hb:bd2 b) (hc:bd2 c) :Calls Tryz.prog 112 #[pV a,pV b,pV c] w fun e w'=>e= .returned (.bool (uX a b c))∧Over w w':=by
 obtain ⟨a1,a2⟩ :=vG ha;obtain ⟨b1,b2⟩ :=vG hb;obtain ⟨c1,c2⟩ :=vG hc
 exact Ox a.1 a.2 b.1 b.2 c.1 c.2 w a1 a2 b1 b2 c1 c2
theorem Yy (a b:Pn) (w:World) (ha:bd2 a) (hb:bd2 b) :Calls Tryz.prog 111 #[pV a,pV b] w fun e w'=>e= .returned (.int .i64 (Z6 a b))∧Over w w':=by
 obtain ⟨⟨a1,a2⟩,a3,a4⟩ :=ha;obtain ⟨⟨b1,b2⟩,b3,b4⟩ :=hb
 refine jU (m:=22) (Tryz.func111) J J (lb J) ?_;refine S3 ?_;refine aX (fun b1=> ?_);refine N1 ?_;refine aX (fun b2=> ?_);refine N11 ?_;refine cZ (fun c1=> ?_) (fun c1=> ?_)
 ·refine S7 ?_;refine a9 (jH QI J J (fun w h=>Calls.still (Ka _ w))) ?_;refine S4 ?_;refine jL J (.tmp J) ?_
  intro w' hs
  exact⟨W8 (by simp [Z6,c1]),hs.fin⟩
 ·refine S9 ?_;refine a9 (jH QI J J (fun w h=>Calls.still (Ka _ w))) ?_;refine S3 ?_;refine jL J (.tmp J) ?_
  intro w' hs
  exact⟨W8 (by simp [Z6,c1]),hs.fin⟩
theorem Zu (a b:Pn) (w:World) (ha:bd2 a) (hb:bd2 b) :Calls Tryz.prog 110 #[pV a,pV b] w fun e w'=>e= .returned (pV (xw a b))∧Over w w':=by
 refine jU (m:=11) (Tryz.func110) J J (lb J) ?_;refine S3 ?_;refine aX (fun b1=> ?_);refine N1 ?_;refine aX (fun b2=> ?_);refine N1 ?_;refine aL (fun b3=> ?_);refine N6 ?_;refine a9 (jH Wb J J (fun w h=>Yy a b w ha hb)) ?_;refine S2 ?_;refine cZ (fun c1=> ?_) (fun c1=> ?_)
 ·refine S8 ?_;refine jL J (J3 (k:=2) J jl J J) ?_
  intro w' hs
  exact⟨by rw [xw,if_pos c1],hs.fin⟩
 ·refine S9 ?_;refine jL J (J3 (k:=2) J jl J J) ?_
  intro w' hs
  exact⟨by rw [xw,if_neg (by omega)],hs.fin⟩
theorem YD (a b:Pn) (w:World) (ha:bd2 a) (hb:bd2 b) :Calls Tryz.prog 109 #[pV a,pV b] w fun e w'=>e= .returned (pV (xj a b))∧Over w w':=by
 refine jU (m:=11) (Tryz.func109) J J (lb J) ?_;refine S3 ?_;refine aX (fun b1=> ?_);refine N1 ?_;refine aX (fun b2=> ?_);refine N1 ?_;refine aL (fun b3=> ?_);refine N6 ?_;refine a9 (jH Wb J J (fun w h=>Yy a b w ha hb)) ?_;refine S2 ?_;refine cZ (fun c1=> ?_) (fun c1=> ?_)
 ·refine S8 ?_;refine jL J (J3 (k:=2) J jl J J) ?_
  intro w' hs
  exact⟨by rw [xj,if_pos c1],hs.fin⟩
 ·refine S9 ?_;refine jL J (J3 (k:=2) J jl J J) ?_
  intro w' hs
  exact⟨by rw [xj,if_neg (by omega)],hs.fin⟩
theorem jdE (n:Int) : -1≤Wh n∧Wh n≤1:=by have:=W9 n;omega
theorem yE (m n:Int) : -1≤Wh m*Wh n∧Wh m*Wh n≤1:=by
 rcases W9 m with⟨_,e1⟩ |⟨_,e1⟩ |⟨_,e1⟩ <;>rcases W9 n with⟨_,e2⟩ |⟨_,e2⟩ |⟨_,e2⟩ <;>rw [e1,e2] <;>omega
abbrev mtV (r:Int×Pn) :Value:= .tuple #[.int .i64 r.1,pV r.2]
theorem xz (k:Int) (p:Pn) {r:Int×Pn} (h:r= (k,p)) :Ending.returned (.tuple #[.int .i64 k,pV p]) =Ending.returned (mtV r) :=by rw [h]
theorem IR (a b c d:Pn) (w:World) (ha:bd2 a) (hb:bd2 b) (hc:bd2 c) (hd:bd2 d) :Calls Tryz.prog 73 #[pV a,pV b,pV c,pV d] w fun e w'=>e= .returned (mtV (Ud a b c d))∧Over w w':=by
 have m1:=yE (tn a b c) (tn a b d)
 have m2:=yE (tn c d a) (tn c d b)
 have l1:= (UJ ha hb).2.1
 have l2:= (UJ hc hd).2.1
 have g1:= (UH ha hb).2.1
 have g2:= (UH hc hd).2.1
 refine jU (m:=110) (Tryz.func73) J J (lb J) ?_;refine S3 ?_;refine aX (fun b1=> ?_);refine N1 ?_;refine aX (fun b2=> ?_);refine N1 ?_;refine aX (fun b3=> ?_);refine N1 ?_;refine aX (fun b4=> ?_);refine N2 ?_;refine aL (fun b5=> ?_);refine N3 ?_;refine Jw 24 ?_;refine dK 0 ?_;refine dK 1 ?_;refine dK 2 ?_;refine dZ 3 J (jH kC J J (fun w h=>ZR _ _ _ w (by assumption) (by assumption) (by assumption))) ?_;refine dZ 4 J (jH QI J J (fun w h=>Calls.still (Ka _ w))) ?_;refine dK 5 ?_;refine dK 6 ?_;refine dK 7 ?_;refine dZ 8 J (jH kC J J (fun w h=>ZR _ _ _ w (by assumption) (by assumption) (by assumption))) ?_;refine dZ 9 J (jH QI J J (fun w h=>Calls.still (Ka _ w))) ?_;refine dK 10 ?_;refine dK 11 ?_;refine dK 12 ?_;refine dZ 13 J (jH kC J J (fun w h=>ZR _ _ _ w (by assumption) (by assumption) (by assumption))) ?_;refine dZ 14 J (jH QI J J (fun w h=>Calls.still (Ka _ w))) ?_;refine dK 15 ?_;refine dK 16 ?_;refine dK 17 ?_;refine dZ 18 J (jH kC J J (fun w h=>ZR _ _ _ w (by assumption) (by assumption) (by assumption))) ?_;refine dZ 19 J (jH QI J J (fun w h=>Calls.still (Ka _ w))) ?_;refine dK 20 ?_;refine dK 21 ?_;refine dK 22 ?_;refine dK 23 ?_;refine Jj (by kernel_rfl) ?_;refine S2 ?_;refine qd [(49, .bool (xe a b c d))] (kK [4,5,6,7,8,9,10,11,12,13]) (fun L h_2=> ?_) ?_
 ·refine S4 ?_;refine cV 38 (fun g1=> ?_) (fun g1=> ?_)
  ·refine S6 ?_;refine cV 42 (fun g2=> ?_) (fun g2=> ?_)
   ·refine S6 ?_;refine cV 46 (fun g3=> ?_) (fun g3=> ?_)
    ·refine S6 ?_
     exact Jb h_2 ⟨vb (by simp [xe, *]),sz⟩ (u9 J)
    ·refine S4 ?_
     exact Jb h_2 ⟨vb (by simp [xe, *]),sz⟩ (u9 J)
   ·refine S8 ?_
    exact Jb h_2 ⟨vb (by simp [xe, *]),sz⟩ (u9 J)
  ·refine S12 ?_
   exact Jb h_2 ⟨vb (by simp [xe, *]),sz⟩ (u9 J)
 ·refine v9 ?_;refine cZ (fun c1=> ?_) (fun c1=> ?_)
  ·refine S2 ?_;refine Jw 9 ?_;refine dK 0 ?_;refine dK 1 ?_;refine dZ 2 J (jH WI J J (fun w h=>Zu _ _ w ha hb)) ?_;refine dK 3 ?_;refine dK 4 ?_;refine dZ 5 J (jH WI J J (fun w h=>Zu _ _ w hc hd)) ?_;refine dZ 6 J (jH Wd J J (fun w h=>YD _ _ w l1 l2)) ?_;refine Jh (i:=7) J (by decide) (by kernel_rfl) J ?_;refine aL (fun b6=> ?_);refine n9 ?_;refine jJ (u9 J) ?_;refine Jh (i:=8) J (by decide) (by kernel_rfl) J ?_;refine S1 ?_;refine jJ (u9 J) ?_;refine Jj (by kernel_rfl) ?_;refine S3 ?_;refine Jw 9 ?_;refine dK 0 ?_;refine dK 1 ?_;refine dZ 2 J (jH Wd J J (fun w h=>YD _ _ w ha hb)) ?_;refine dK 3 ?_;refine dK 4 ?_;refine dZ 5 J (jH Wd J J (fun w h=>YD _ _ w hc hd)) ?_;refine dZ 6 J (jH WI J J (fun w h=>Zu _ _ w g1 g2)) ?_;refine Jh (i:=7) J (by decide) (by kernel_rfl) J ?_;refine aL (fun b7=> ?_);refine n9 ?_;refine jJ (u9 J) ?_;refine Jh (i:=8) J (by decide) (by kernel_rfl) J ?_;refine S1 ?_;refine jJ (u9 J) ?_;refine Jj (by kernel_rfl) ?_;refine S6 ?_;refine a9 (jH Wb J J (fun w h=>Yy _ _ w (UH l1 l2).2.1 (UJ g1 g2).2.1)) ?_;refine S7 ?_;refine cZ (fun c2=> ?_) (fun c2=> ?_)
   ·refine S2 ?_;refine Q8 3 [4] ?_;refine dK 0 ?_;refine dK 1 ?_;refine Jh (i:=2) J (by decide) (by kernel_rfl) J ?_;refine S1 ?_;refine jJ (uw [4] J) ?_;refine Jj (by kernel_rfl) ?_;refine S5 ?_;refine J6 J (.tmp J) (J3 (k:=4) J jl J J) ?_
    intro w' hs
    exact⟨xz 1 (Us a b c d) (by rw [Ud,if_pos c1,if_pos (show Z6 (Us a b c d) (uh a b c d) =0 from c2)]),hs.fin⟩
   ·refine S5 ?_;refine cZ (fun c3=> ?_) (fun c3=> ?_)
    ·refine S2 ?_;refine Q8 3 [4] ?_;refine dK 0 ?_;refine dK 1 ?_;refine Jh (i:=2) J (by decide) (by kernel_rfl) J ?_;refine S1 ?_;refine jJ (uw [4] J) ?_;refine Jj (by kernel_rfl) ?_;refine S5 ?_;refine J6 J (.tmp J) (J3 (k:=4) J jl J J) ?_
     intro w' hs
     exact⟨xz 3 (Us a b c d) (by rw [Ud,if_pos c1,if_neg (show¬Z6 (Us a b c d) (uh a b c d) =0 from c2),if_pos (show Z6 (Us a b c d) (uh a b c d) = -1 from c3)]),hs.fin⟩
    ·refine S5 ?_;refine a9 (JV J J (yk)) ?_;refine S6 ?_;refine J6 J (.tmp J) (J3 (k:=4) J jl J J) ?_
     intro w' hs
     exact⟨xz 0 (0,0) (by rw [Ud,if_pos c1,if_neg (show¬Z6 (Us a b c d) (uh a b c d) =0 from c2),if_neg (show¬Z6 (Us a b c d) (uh a b c d) = -1 from c3)]),hs.fin⟩
  ·refine S3 ?_;refine qd [(83, .bool (qM a b c d))] (kK [4,5,6,7,8,9]) (fun L h_11=> ?_) ?_
   ·refine S6 ?_;refine cV 78 (fun g4=> ?_) (fun g4=> ?_)
    ·refine S10 ?_
     exact Jb h_11 ⟨vb (by simp [qM, *] <;>omega),sz⟩ (u9 J)
    ·refine S6 ?_
     exact Jb h_11 ⟨vb (by simp [qM, *] <;>omega),sz⟩ (u9 J)
   ·refine v9 ?_;refine cZ (fun c4=> ?_) (fun c4=> ?_)
    ·refine S2 ?_;refine a9 (JV J J (yk)) ?_;refine S6 ?_;refine J6 J (.tmp J) (J3 (k:=4) J jl J J) ?_
     intro w' hs
     exact⟨xz 2 (0,0) (by rw [Ud,if_neg (by simp [c1]),if_pos c4]),hs.fin⟩
    ·refine S9 ?_;refine a9 (jH vU J J (fun w h=>HW _ _ _ w (by assumption) (by assumption) (by assumption))) ?_;refine S2 ?_;refine cZ (fun c5=> ?_) (fun c5=> ?_)
     ·refine S2 ?_;refine Q8 3 [4] ?_;refine dK 0 ?_;refine dK 1 ?_;refine Jh (i:=2) J (by decide) (by kernel_rfl) J ?_;refine S1 ?_;refine jJ (uw [4] J) ?_;refine Jj (by kernel_rfl) ?_;refine S4 ?_;refine J6 J (.tmp J) (J3 (k:=4) J jl J J) ?_
      intro w' hs
      exact⟨xz 1 c (by rw [Ud,if_neg (by simp [c1]),if_neg (by simp [c4]),if_pos c5]),hs.fin⟩
     ·refine S5 ?_;refine a9 (jH vU J J (fun w h=>HW _ _ _ w (by assumption) (by assumption) (by assumption))) ?_;refine S2 ?_;refine cZ (fun c6=> ?_) (fun c6=> ?_)
      ·refine S2 ?_;refine Q8 3 [4] ?_;refine dK 0 ?_;refine dK 1 ?_;refine Jh (i:=2) J (by decide) (by kernel_rfl) J ?_;refine S1 ?_;refine jJ (uw [4] J) ?_;refine Jj (by kernel_rfl) ?_;refine S4 ?_;refine J6 J (.tmp J) (J3 (k:=4) J jl J J) ?_
       intro w' hs
       exact⟨xz 1 d (by rw [Ud,if_neg (by simp [c1]),if_neg (by simp [c4]),if_neg (by simp [c5]),if_pos c6]),hs.fin⟩
      ·refine S5 ?_;refine a9 (jH vU J J (fun w h=>HW _ _ _ w (by assumption) (by assumption) (by assumption))) ?_;refine S2 ?_;refine cZ (fun c7=> ?_) (fun c7=> ?_)
       ·refine S2 ?_;refine Q8 3 [4] ?_;refine dK 0 ?_;refine dK 1 ?_;refine Jh (i:=2) J (by decide) (by kernel_rfl) J ?_;refine S1 ?_;refine jJ (uw [4] J) ?_;refine Jj (by kernel_rfl) ?_;refine S4 ?_;refine J6 J (.tmp J) (J3 (k:=4) J jl J J) ?_
        intro w' hs
        exact⟨xz 1 a (by rw [Ud,if_neg (by simp [c1]),if_neg (by simp [c4]),if_neg (by simp [c5]),if_neg (by simp [c6]),if_pos c7]),hs.fin⟩
       ·refine S5 ?_;refine a9 (jH vU J J (fun w h=>HW _ _ _ w (by assumption) (by assumption) (by assumption))) ?_;refine S2 ?_;refine cZ (fun c8=> ?_) (fun c8=> ?_)
        ·refine S2 ?_;refine Q8 3 [4] ?_;refine dK 0 ?_;refine dK 1 ?_;refine Jh (i:=2) J (by decide) (by kernel_rfl) J ?_;refine S1 ?_;refine jJ (uw [4] J) ?_;refine Jj (by kernel_rfl) ?_;refine S4 ?_;refine J6 J (.tmp J) (J3 (k:=4) J jl J J) ?_
         intro w' hs
         exact⟨xz 1 b (by rw [Ud,if_neg (by simp [c1]),if_neg (by simp [c4]),if_neg (by simp [c5]),if_neg (by simp [c6]),if_neg (by simp [c7]),if_pos c8]),hs.fin⟩
        ·refine S5 ?_;refine a9 (JV J J (yk)) ?_;refine S5 ?_;refine J6 J (.tmp J) (J3 (k:=4) J jl J J) ?_
         intro w' hs
         exact⟨xz 0 (0,0) (by rw [Ud,if_neg (by simp [c1]),if_neg (by simp [c4]),if_neg (by simp [c5]),if_neg (by simp [c6]),if_neg (by simp [c7]),if_neg (by simp [c8])]),hs.fin⟩
end Go.Proofs.YtkagkgjjfdkoaaaGreat
