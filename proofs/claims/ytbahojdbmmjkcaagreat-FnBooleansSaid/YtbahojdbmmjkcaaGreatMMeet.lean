import Derived.Test.YtbahojdbmmjkcaaGreatMBounds
import Derived.Test.YtbahojdbmmjkcaaGreatMValidRegion
set_option linter.unusedVariables false
set_option linter.unusedSimpArgs false
namespace Go.Proofs.YtbahojdbmmjkcaaGreat
open Go Go.RowKit
set_option maxRecDepth 100000
set_option maxHeartbeats 4000000
open Go.RowKit
abbrev Pn:=Int×Int
def tn (a b c:Pn) :Int:=Q0 a.1 a.2 b.1 b.2 c.1 c.2
def WW (a b p:Pn) :Bool:=DC a.1 a.2 b.1 b.2 p.1 p.2
def bd2 (p:Pn) :Prop:= (-262144≤p.1∧p.1≤262144)∧-262144≤p.2∧p.2≤262144
theorem UH {p:Pn} (h:wW p.1 p.2=true) :bd2 p:=by
 simp [wW,ZX] at h
 exact⟨⟨by omega,by omega⟩,by omega,by omega⟩
def key (p:Pn) :Int:=p.1*1048576+p.2
theorem jfp {p q:Pn} (hp:bd2 p) (hq:bd2 q) (h:key p=key q) :p=q:=by
 obtain ⟨x,y⟩ :=p;obtain ⟨x',y'⟩ :=q
 unfold bd2 key at*
 simp only at*
 have:x=x':=by omega
 subst this
 have:y=y':=by omega
 rw [this]
theorem KH {a b p:Pn} :WW a b p=true↔tn a b p=0∧(min a.1 b.1≤p.1∧p.1≤max a.1 b.1)∧min a.2 b.2≤p.2∧p.2≤max a.2 b.2:=by
 simp only [WW,DC,tn,jjl,beq_iff_eq,decide_eq_true_eq]
 constructor
 ·rintro⟨⟨⟨⟨h1,h2⟩,h3⟩,h4⟩,h5⟩;exact⟨h1,⟨h2,h3⟩,h4,h5⟩
 ·rintro⟨h1,⟨h2,h3⟩,h4,h5⟩;exact⟨⟨⟨⟨h1,h2⟩,h3⟩,h4⟩,h5⟩
theorem Tv {a b:Int} (h:a*b=0) :a=0∨b=0:=Int.mul_eq_zero.1 h
theorem par {x1 x2 y1 y2 u1 u2:Int} (hx:x1*u2- x2*u1=0) (hy:y1*u2- y2*u1=0) (hu:¬(u1=0∧u2=0)) :x1*y2- x2*y1=0:=by
 have e1:u1* (x1*y2- x2*y1) =0:=by grind
 have e2:u2* (x1*y2- x2*y1) =0:=by grind
 rcases Tv e1 with h | h
 ·rcases Tv e2 with h' | h'
  ·exact absurd ⟨h,h'⟩ hu
  ·exact h'
 ·exact h
theorem jh3 {a b c d p q:Pn} (hp:WW a b p=true) (hp':WW c d p=true) (hq:WW a b q=true) (hq':WW c d q=true) (hne:p≠q) :
  tn a b c=0∧tn a b d=0∧tn c d a=0∧tn c d b=0:=by
 rw [KH] at hp hp' hq hq'
 obtain ⟨a1,a2⟩ :=a;obtain ⟨b1,b2⟩ :=b;obtain ⟨c1,c2⟩ :=c;obtain ⟨d1,d2⟩ :=d;obtain ⟨p1,p2⟩ :=p;obtain ⟨q1,q2⟩ :=q
 simp only [tn,Q0] at*
 have hu:¬(q1- p1=0∧q2- p2=0) :=fun h=>hne (by rw [show p1=q1 by omega,show p2=q2 by omega])
 have hab: (b1- a1) * (q2- p2) - (b2- a2) * (q1- p1) =0:=by grind
 have hcd: (d1- c1) * (q2- p2) - (d2- c2) * (q1- p1) =0:=by grind
 have hpar:=par hab hcd hu
 have hcp: (c1- p1) * (q2- p2) - (c2- p2) * (q1- p1) =0:=by
  by_cases hz:d1- c1=0∧d2- c2=0
  ·have:p1=q1∧p2=q2:=by omega
   exact absurd (by rw [this.1,this.2]) hne
  ·have h1: (c1- p1) * (d2- c2) - (c2- p2) * (d1- c1) =0:=by grind
   have h2: (q1- p1) * (d2- c2) - (q2- p2) * (d1- c1) =0:=by grind
   exact par h1 h2 hz
 have hap: (a1- p1) * (q2- p2) - (a2- p2) * (q1- p1) =0:=by
  by_cases hz:b1- a1=0∧b2- a2=0
  ·have:p1=q1∧p2=q2:=by omega
   exact absurd (by rw [this.1,this.2]) hne
  ·have h1: (a1- p1) * (b2- a2) - (a2- p2) * (b1- a1) =0:=by grind
   have h2: (q1- p1) * (b2- a2) - (q2- p2) * (b1- a1) =0:=by grind
   exact par h1 h2 hz
 have k1:=par hab hcp hu
 have k2:=par hcd hap hu
 refine⟨?_,?_,?_,?_⟩ <;>grind
theorem jdq {a b p:Pn} (ha:bd2 a) (hb:bd2 b) (hp:bd2 p) (h:tn a b p=0) :WW a b p=true↔min (key a) (key b)≤key p∧key p≤max (key a) (key b) :=by
 rw [KH]
 obtain ⟨a1,a2⟩ :=a;obtain ⟨b1,b2⟩ :=b;obtain ⟨p1,p2⟩ :=p
 simp only [tn,Q0,key,bd2] at*
 constructor
 ·rintro⟨_,h2,h3⟩
  rcases jj4 a1 b1 with hx | hx | hx
  ·by_cases e:p1=a1
   ·subst e
    have: (b1- p1) * (p2- a2) =0:=by grind
    rcases Tv this with h4 | h4<;>omega
   ·by_cases e:p1=b1
    ·subst e
     have: (p1- a1) * (p2- b2) =0:=by grind
     rcases Tv this with h4 | h4<;>omega
    ·omega
  ·omega
  ·by_cases e:p1=a1
   ·subst e
    have: (b1- p1) * (p2- a2) =0:=by grind
    rcases Tv this with h4 | h4<;>omega
   ·by_cases e:p1=b1
    ·subst e
     have: (p1- a1) * (p2- b2) =0:=by grind
     rcases Tv this with h4 | h4<;>omega
    ·omega
 ·intro h2
  have hx:min a1 b1≤p1∧p1≤max a1 b1:=by omega
  refine⟨h,hx,?_⟩
  rcases jj4 a1 b1 with hl | hl | hl
  ·have k1:0≤p1- a1:=by omega
   have k2:p1- a1≤b1- a1:=by omega
   have e: (b1- a1) * (p2- a2) = (b2- a2) * (p1- a1) :=by omega
   by_cases hy:a2≤b2
   ·have g1:0≤(b2- a2) * (p1- a1) :=jjD Om k1
    have g2: (b2- a2) * (p1- a1)≤(b2- a2) * (b1- a1) :=jjM k2 Om
    have g3: (b1- a1) * (p2- a2)≤(b1- a1) * (b2- a2) :=by rw [e,jj1 (b1- a1)];exact g2
    have g4: (b1- a1) *0≤(b1- a1) * (p2- a2) :=by rw [e];simpa using g1
    have:=jks g3 Om
    have:=jks g4 Om
    omega
   ·have g1:0≤(a2- b2) * (p1- a1) :=jjD Om k1
    have g2: (a2- b2) * (p1- a1)≤(a2- b2) * (b1- a1) :=jjM k2 Om
    have e': (b1- a1) * (a2- p2) = (a2- b2) * (p1- a1) :=by grind
    have g3: (b1- a1) * (a2- p2)≤(b1- a1) * (a2- b2) :=by rw [e',jj1 (b1- a1)];exact g2
    have g4: (b1- a1) *0≤(b1- a1) * (a2- p2) :=by rw [e'];simpa using g1
    have:=jks g3 Om
    have:=jks g4 Om
    omega
  ·omega
  ·have k1:0≤a1- p1:=by omega
   have k2:a1- p1≤a1- b1:=by omega
   by_cases hy:a2≤b2
   ·have g1:0≤(b2- a2) * (a1- p1) :=jjD Om k1
    have g2: (b2- a2) * (a1- p1)≤(b2- a2) * (a1- b1) :=jjM k2 Om
    have e': (a1- b1) * (p2- a2) = (b2- a2) * (a1- p1) :=by grind
    have g3: (a1- b1) * (p2- a2)≤(a1- b1) * (b2- a2) :=by rw [e',jj1 (a1- b1)];exact g2
    have g4: (a1- b1) *0≤(a1- b1) * (p2- a2) :=by rw [e'];simpa using g1
    have:=jks g3 Om
    have:=jks g4 Om
    omega
   ·have g1:0≤(a2- b2) * (a1- p1) :=jjD Om k1
    have g2: (a2- b2) * (a1- p1)≤(a2- b2) * (a1- b1) :=jjM k2 Om
    have e': (a1- b1) * (a2- p2) = (a2- b2) * (a1- p1) :=by grind
    have g3: (a1- b1) * (a2- p2)≤(a1- b1) * (a2- b2) :=by rw [e',jj1 (a1- b1)];exact g2
    have g4: (a1- b1) *0≤(a1- b1) * (a2- p2) :=by rw [e'];simpa using g1
    have:=jks g3 Om
    have:=jks g4 Om
    omega
def XN (p q:Pn) :Int:=if p.1=q.1 then wR (p.2- q.2) else wR (p.1- q.1)
theorem Uq (n:Int) : (n<0∧wR n= -1)∨(n=0∧wR n=0)∨(0<n∧wR n=1) :=by unfold wR;split<;> (try split) <;>omega
theorem Oo {p q:Pn} (hp:bd2 p) (hq:bd2 q) :XN p q=wR (key p- key q) :=by
 obtain ⟨x,y⟩ :=p;obtain ⟨x',y'⟩ :=q
 unfold bd2 XN key at*
 simp only at*
 have h1:=Uq (y- y');have h2:=Uq (x- x');have h3:=Uq (x*1048576+y- (x'*1048576+y'))
 split<;>omega
def X8 (a b:Pn) :Pn:=if XN a b≤0 then a else b
def XX (a b:Pn) :Pn:=if 0≤XN a b then a else b
theorem Yb {p q:Pn} (hp:bd2 p) (hq:bd2 q) :key (X8 p q) =min (key p) (key q)∧bd2 (X8 p q)∧(X8 p q=p∨X8 p q=q) :=by
 unfold X8;rw [Oo hp hq]
 have:=Uq (key p- key q)
 split
 ·exact⟨by omega,hp, .inl rfl⟩
 ·exact⟨by omega,hq, .inr rfl⟩
theorem Ya {p q:Pn} (hp:bd2 p) (hq:bd2 q) :key (XX p q) =max (key p) (key q)∧bd2 (XX p q)∧(XX p q=p∨XX p q=q) :=by
 unfold XX;rw [Oo hp hq]
 have:=Uq (key p- key q)
 split
 ·exact⟨by omega,hp, .inl rfl⟩
 ·exact⟨by omega,hq, .inr rfl⟩
def XU (a b c d:Pn) :Bool:= (wR (tn a b c) ==0) && (wR (tn a b d) ==0) && (wR (tn c d a) ==0) && (wR (tn c d b) ==0)
def qg (a b c d:Pn) :Bool:=decide (wR (tn a b c) *wR (tn a b d) <0) &&decide (wR (tn c d a) *wR (tn c d b) <0)
def yG (a b c d:Pn) :Pn:=XX (X8 a b) (X8 c d)
def Uv (a b c d:Pn) :Pn:=X8 (XX a b) (XX c d)
def Wb (a b c d:Pn) :Int×Pn:=
 if XU a b c d=true then
  (if XN (yG a b c d) (Uv a b c d) =0 then(1,yG a b c d) else if XN (yG a b c d) (Uv a b c d) = -1 then(3,yG a b c d) else(0,(0,0)))
 else if qg a b c d=true then(2,(0,0))
 else if WW a b c=true then(1,c) else if WW a b d=true then(1,d) else if WW c d a=true then(1,a) else if WW c d b=true then(1,b) else(0,(0,0))
def kd (a b c d p:Pn) :Bool:=WW a b p&&WW c d p
def Mc (a b c d:Pn) (out:List Pn) (p:Pn) :List Pn:=if(!(out.contains p) &&kd a b c d p) =true then out++ [p] else out
def Qk (a b c d:Pn) :List Pn:=Mc a b c d (Mc a b c d (Mc a b c d (Mc a b c d [] a) b) c) d
def Qd (a b c d:Pn) :Int:=if(Qk a b c d).length=0 then(if qg a b c d=true then 2 else 0) else if(Qk a b c d).length=1 then 1 else 3
theorem jbx {a b c d p q:Pn} {out:List Pn} :q∈Mc a b c d out p↔q∈out∨(q=p∧kd a b c d p=true) :=by
 unfold Mc
 split
 ·rename_i h
  simp only [jjl] at h
  simp [h.2]
 ·rename_i h
  simp only [jjl,jj9,not_and,Bool.not_eq_true] at h
  constructor
  ·exact .inl
  ·rintro(h1 |⟨rfl,h1⟩)
   ·exact h1
   ·by_cases hc:out.contains q=true
    ·simpa using hc
    ·rw [h (by simpa using hc)] at h1;cases h1
theorem YB {a b c d p:Pn} {out:List Pn} (h:out.Nodup) : (Mc a b c d out p).Nodup:=by
 unfold Mc
 split
 ·rename_i h'
  simp only [jjl,jj9] at h'
  rw [List.nodup_append]
  exact⟨h,by simp,fun x hx y hy e=>by simp at hy;subst hy;subst e;have:=h'.1;simp at this;exact this hx⟩
 ·exact h
theorem qL {a b c d q:Pn} :q∈Qk a b c d↔(q=a∨q=b∨q=c∨q=d)∧kd a b c d q=true:=by
 unfold Qk
 simp only [jbx,jj8,false_or]
 constructor
 ·rintro(((⟨rfl,h⟩ |⟨rfl,h⟩) |⟨rfl,h⟩) |⟨rfl,h⟩)
  ·exact⟨.inl rfl,h⟩
  ·exact⟨.inr (.inl rfl),h⟩
  ·exact⟨.inr (.inr (.inl rfl)),h⟩
  ·exact⟨.inr (.inr (.inr rfl)),h⟩
 ·rintro⟨rfl | rfl | rfl | rfl,h⟩
  ·exact .inl (.inl (.inl ⟨rfl,h⟩))
  ·exact .inl (.inl (.inr ⟨rfl,h⟩))
  ·exact .inl (.inr ⟨rfl,h⟩)
  ·exact .inr ⟨rfl,h⟩
theorem WH (a b c d:Pn) : (Qk a b c d).Nodup:=YB (YB (YB (YB List.nodup_nil)))
theorem jfr {l:List Pn} (h:∀q,q∉l) :l.length=0:=by
 cases l with
 | nil=>rfl
 | cons a r=>exact absurd (jjJ) (h a)
theorem jis {l:List Pn} {p:Pn} (hn:l.Nodup) (hp:p∈l) (h:∀q∈l,q=p) :l= [p] :=by
 match l,hn,hp,h with
 | [x],_,_,h=>rw [h x (by simp)]
 | x::y::r,hn,_,h=>
  have h1:=h x (by simp);have h2:=h y (by simp)
  rw [h1,h2] at hn
  simp at hn
theorem jit {l:List Pn} {p q:Pn} (hp:p∈l) (hq:q∈l) (hne:p≠q) :¬l.length=0∧¬l.length=1:=by
 match l,hp,hq with
 | [x],hp,hq=>simp at hp hq;exact absurd (hp.trans hq.symm) hne
 | x::y::r,_,_=>simp
theorem wE (a b:Pn) :WW a b a=true:=by rw [KH];simp only [tn,Q0];refine⟨by grind,?_⟩;omega
theorem Wm (a b:Pn) :WW a b b=true:=by rw [KH];simp only [tn,Q0];refine⟨by grind,?_⟩;omega
theorem Ew {n:Int} : (wR n==0) =true↔n=0:=by have:=Uq n;simp;omega
theorem ZH {m n:Int} :wR m*wR n<0↔(m<0∧0<n)∨(0<m∧n<0) :=by
 rcases Uq m with⟨h1,e1⟩ |⟨h1,e1⟩ |⟨h1,e1⟩ <;>rcases Uq n with⟨h2,e2⟩ |⟨h2,e2⟩ |⟨h2,e2⟩ <;>rw [e1,e2] <;>omega
theorem Hx {a b c d:Pn} (ha:bd2 a) (hb:bd2 b) (hc:bd2 c) (hd:bd2 d) :
  (Wb a b c d).1=Qd a b c d∧((Wb a b c d).1=1→Qk a b c d= [(Wb a b c d).2]) :=by
 unfold Wb Qd
 by_cases hf:XU a b c d=true
 ·rw [if_pos hf]
  simp only [XU,jjl,Ew] at hf
  obtain ⟨⟨⟨f1,f2⟩,f3⟩,f4⟩ :=hf
  have f5:tn a b a=0:=by simp only [tn,Q0];grind
  have f6:tn a b b=0:=by simp only [tn,Q0];grind
  have f7:tn c d c=0:=by simp only [tn,Q0];grind
  have f8:tn c d d=0:=by simp only [tn,Q0];grind
  obtain ⟨l1,l2,l3⟩ :=Yb ha hb
  obtain ⟨l4,l5,l6⟩ :=Yb hc hd
  obtain ⟨g1,g2,g3⟩ :=Ya ha hb
  obtain ⟨g4,g5,g6⟩ :=Ya hc hd
  obtain ⟨m1,m2,m3⟩ :=Ya l2 l5
  obtain ⟨m4,m5,m6⟩ :=Yb g2 g5
  have hns:qg a b c d=false:=by simp only [qg,f1,f3];simp [wR]
  have key1:∀q,(q=a∨q=b∨q=c∨q=d)→(kd a b c d q=true↔key (yG a b c d)≤key q∧key q≤key (Uv a b c d)) :=by
   intro q hq
   have hqb:bd2 q:=by rcases hq with rfl | rfl | rfl | rfl<;>assumption
   have t1:tn a b q=0:=by rcases hq with rfl | rfl | rfl | rfl<;>assumption
   have t2:tn c d q=0:=by rcases hq with rfl | rfl | rfl | rfl<;>assumption
   simp only [kd,jjl]
   rw [jdq ha hb hqb t1,jdq hc hd hqb t2]
   show _↔key (XX (X8 a b) (X8 c d))≤key q∧key q≤key (X8 (XX a b) (XX c d))
   omega
  have hlow:yG a b c d=a∨yG a b c d=b∨yG a b c d=c∨yG a b c d=d:=by
   unfold yG
   rcases m3 with e | e<;>rw [e]
   ·rcases l3 with e | e<;>rw [e] <;>simp
   ·rcases l6 with e | e<;>rw [e] <;>simp
  have hhigh:Uv a b c d=a∨Uv a b c d=b∨Uv a b c d=c∨Uv a b c d=d:=by
   unfold Uv
   rcases m6 with e | e<;>rw [e]
   ·rcases g3 with e | e<;>rw [e] <;>simp
   ·rcases g6 with e | e<;>rw [e] <;>simp
  have hlb:bd2 (yG a b c d) :=m2
  have hhb:bd2 (Uv a b c d) :=m5
  rw [Oo hlb hhb]
  rcases Uq (key (yG a b c d) - key (Uv a b c d)) with⟨k1,e⟩ |⟨k1,e⟩ |⟨k1,e⟩
  ·rw [e,if_neg Om,if_pos rfl]
   have h1:yG a b c d∈Qk a b c d:=qL.2 ⟨hlow,(key1 _ hlow).2 Om⟩
   have h2:Uv a b c d∈Qk a b c d:=qL.2 ⟨hhigh,(key1 _ hhigh).2 Om⟩
   obtain ⟨n1,n2⟩ :=jit h1 h2 (fun e=>by rw [e] at k1;omega)
   rw [if_neg n1,if_neg n2]
   exact⟨rfl,fun h=>absurd h (by simp)⟩
  ·rw [e,if_pos rfl]
   have h1:yG a b c d∈Qk a b c d:=qL.2 ⟨hlow,(key1 _ hlow).2 Om⟩
   have hl:=jis (WH a b c d) h1 fun q hq=>by
    obtain ⟨hq1,hq2⟩ :=qL.1 hq
    have hqb:bd2 q:=by rcases hq1 with rfl | rfl | rfl | rfl<;>assumption
    have:= (key1 q hq1).1 hq2
    exact jfp hqb hlb Om
   rw [hl]
   exact⟨rfl,fun _=>rfl⟩
  ·rw [e,if_neg Om,if_neg Om]
   have hl:=jfr (l:=Qk a b c d) fun q hq=>by
    obtain ⟨hq1,hq2⟩ :=qL.1 hq
    have:= (key1 q hq1).1 hq2
    omega
   rw [if_pos hl,hns]
   exact⟨rfl,fun h=>absurd h (by simp)⟩
 ·rw [if_neg hf]
  have huniq:∀p q,kd a b c d p=true→kd a b c d q=true→p=q:=by
   intro p q hp hq
   simp only [kd,jjl] at hp hq
   by_cases e:p=q
   ·exact e
   ·obtain ⟨t1,t2,t3,t4⟩ :=jh3 hp.1 hp.2 hq.1 hq.2 e
    exact absurd (by simp only [XU,jjl,Ew];exact⟨⟨⟨t1,t2⟩,t3⟩,t4⟩) hf
  have one:∀p,(p=a∨p=b∨p=c∨p=d)→kd a b c d p=true→Qk a b c d= [p] :=fun p hp hb=>
   jis (WH a b c d) (qL.2 ⟨hp,hb⟩) fun q hq=>huniq q p (qL.1 hq).2 hb
  by_cases hs:qg a b c d=true
  ·rw [if_pos hs]
   have hs':=hs
   simp only [qg,jjl,decide_eq_true_eq,ZH] at hs'
   have hl:=jfr (l:=Qk a b c d) fun q hq=>by
    obtain ⟨hq1,hq2⟩ :=qL.1 hq
    simp only [kd,jjl,KH] at hq2
    rcases hq1 with rfl | rfl | rfl | rfl<;>omega
   rw [if_pos hl,if_pos hs]
   exact⟨rfl,fun h=>absurd h (by simp)⟩
  ·rw [if_neg hs]
   by_cases h1:WW a b c=true
   ·rw [if_pos h1,one c (by simp) (by simp [kd,h1,wE])]
    exact⟨rfl,fun _=>rfl⟩
   rw [if_neg h1]
   by_cases h2:WW a b d=true
   ·rw [if_pos h2,one d (by simp) (by simp [kd,h2,Wm])]
    exact⟨rfl,fun _=>rfl⟩
   rw [if_neg h2]
   by_cases h3:WW c d a=true
   ·rw [if_pos h3,one a (by simp) (by simp [kd,h3,wE])]
    exact⟨rfl,fun _=>rfl⟩
   rw [if_neg h3]
   by_cases h4:WW c d b=true
   ·rw [if_pos h4,one b (by simp) (by simp [kd,h4,Wm])]
    exact⟨rfl,fun _=>rfl⟩
   rw [if_neg h4]
   have hl:=jfr (l:=Qk a b c d) fun q hq=>by
    obtain ⟨hq1,hq2⟩ :=qL.1 hq
    simp only [kd,jjl] at hq2
    rcases hq1 with rfl | rfl | rfl | rfl
    ·exact h3 hq2.2
    ·exact h4 hq2.2
    ·exact h1 hq2.1
    ·exact h2 hq2.1
   rw [if_pos hl,if_neg hs]
   exact⟨rfl,fun h=>absurd h (by simp)⟩
def KU (a b c d:Pn) :Bool:=decide (max a.1 b.1<min c.1 d.1) || decide (max c.1 d.1<min a.1 b.1) || decide (max a.2 b.2<min c.2 d.2) || decide (max c.2 d.2<min a.2 b.2)
theorem jhx {s t x y z:Int} (hs:s<0) (ht:0<t) (hx:x<z) (hy:y<z) :t*x- s*y< (t- s) *z:=by
 have h1:t*x<t*z:=jlb hx ht
 have h2: -s*y< -s*z:=jlb hy Om
 grind
theorem jhw {s t x y z:Int} (hs:s<0) (ht:0<t) (hx:z≤x) (hy:z≤y) : (t- s) *z≤t*x- s*y:=by
 have h1:t*z≤t*x:=jjM hx Om
 have h2: -s*z≤-s*y:=jjM hy Om
 grind
theorem ZV {t1 t2 t3 t4 x y z u m:Int} (h12: (t1<0∧0<t2)∨(0<t1∧t2<0)) (h34: (t3<0∧0<t4)∨(0<t3∧t4<0))
  (e: (t4*x- t3*y) * (t2- t1) = (t2*z- t1*u) * (t4- t3)) :¬(x<m∧y<m∧m≤z∧m≤u) :=by
 rintro⟨h1,h2,h3,h4⟩
 have key:∀s t s' t':Int,s<0→0<t→s'<0→0<t'→(t'*x- s'*y) * (t- s) = (t*z- s*u) * (t'- s')→False:=by
  intro s t s' t' a1 a2 a3 a4 e
  have k1:=jhx a3 a4 h1 h2
  have k2:=jhw a1 a2 h3 h4
  have k3: (t'*x- s'*y) * (t- s) < ((t'- s') *m) * (t- s) :=jjE k1 Om
  have k4: ((t- s) *m) * (t'- s')≤(t*z- s*u) * (t'- s') :=jjn k2 Om
  have k5: ((t'- s') *m) * (t- s) = ((t- s) *m) * (t'- s') :=by grind
  omega
 rcases h12 with⟨a1,a2⟩ |⟨a1,a2⟩ <;>rcases h34 with⟨a3,a4⟩ |⟨a3,a4⟩
 ·exact key t1 t2 t3 t4 a1 a2 a3 a4 e
 ·exact key t1 t2 (-t3) (-t4) a1 a2 Om Om (by grind)
 ·exact key (-t1) (-t2) t3 t4 Om Om a3 a4 (by grind)
 ·exact key (-t1) (-t2) (-t3) (-t4) Om Om Om Om (by grind)
theorem YC {a b c d:Pn} (h:KU a b c d=true) :Qd a b c d=0:=by
 have hne:∀q,kd a b c d q=false:=by
  intro q
  cases hq:kd a b c d q
  ·rfl
  ·simp only [kd,jjl,KH] at hq
   simp only [KU,jkb,decide_eq_true_eq] at h
   omega
 have hl:=jfr (l:=Qk a b c d) fun q hq=>by
  have:= (qL.1 hq).2
  rw [hne] at this
  cases this
 unfold Qd
 rw [if_pos hl,if_neg]
 intro hs
 simp only [qg,jjl,decide_eq_true_eq,ZH] at hs
 obtain ⟨h1,h2⟩ :=hs
 simp only [KU,jkb,decide_eq_true_eq] at h
 obtain ⟨a1,a2⟩ :=a;obtain ⟨b1,b2⟩ :=b;obtain ⟨c1,c2⟩ :=c;obtain ⟨d1,d2⟩ :=d
 simp only [tn] at h1 h2
 simp only at h
 have ex: (Q0 c1 c2 d1 d2 b1 b2*a1- Q0 c1 c2 d1 d2 a1 a2*b1) * (Q0 a1 a2 b1 b2 d1 d2- Q0 a1 a2 b1 b2 c1 c2) = (Q0 a1 a2 b1 b2 d1 d2*c1- Q0 a1 a2 b1 b2 c1 c2*d1) * (Q0 c1 c2 d1 d2 b1 b2- Q0 c1 c2 d1 d2 a1 a2) :=by
  simp only [Q0];grind
 have ey: (Q0 c1 c2 d1 d2 b1 b2*a2- Q0 c1 c2 d1 d2 a1 a2*b2) * (Q0 a1 a2 b1 b2 d1 d2- Q0 a1 a2 b1 b2 c1 c2) = (Q0 a1 a2 b1 b2 d1 d2*c2- Q0 a1 a2 b1 b2 c1 c2*d2) * (Q0 c1 c2 d1 d2 b1 b2- Q0 c1 c2 d1 d2 a1 a2) :=by
  simp only [Q0];grind
 rcases h with((h | h) | h) | h
 ·exact ZV (m:=min c1 d1) h1 h2 ex Om
 ·exact ZV (m:=min a1 b1) h2 h1 ex.symm Om
 ·exact ZV (m:=min c2 d2) h1 h2 ey Om
 ·exact ZV (m:=min a2 b2) h2 h1 ey.symm Om
def jdy (a b c d:Pn) :Bool:=
 if(a=c∧b=d)∨(a=d∧b=c) then true
 else if(Wb a b c d).1=1 then(decide ((Wb a b c d).2=a) || decide ((Wb a b c d).2=b)) && (decide ((Wb a b c d).2=c) || decide ((Wb a b c d).2=d))
 else decide ((Wb a b c d).1=0)
def VG (a b c d:Pn) :Bool:=
 if KU a b c d=true then true
 else if Qd a b c d=2 then false
 else if Qd a b c d=1 then !(decide (a≠c) &&decide (a≠d) &&decide (b≠c) &&decide (b≠d))
 else if Qd a b c d=3 then decide ((a=c∧b=d)∨(a=d∧b=c))
 else true
theorem LI (a b c d:Pn) :Qd a b c d=0∨Qd a b c d=1∨Qd a b c d=2∨Qd a b c d=3:=by
 unfold Qd;split<;> (try split) <;>simp
theorem jaM {a b c d:Pn} (ha:bd2 a) (hb:bd2 b) (hc:bd2 c) (hd:bd2 d) (hab:a≠b) (hcd:c≠d) :jdy a b c d=VG a b c d:=by
 obtain ⟨hk,hp⟩ :=Hx ha hb hc hd
 unfold jdy VG
 by_cases hs: (a=c∧b=d)∨(a=d∧b=c)
 ·rw [if_pos hs]
  have h3:Qd a b c d=3:=by
   have m1:a∈Qk a b c d:=qL.2 ⟨by simp,by rcases hs with⟨rfl,rfl⟩ |⟨rfl,rfl⟩ <;>simp [kd,wE,Wm]⟩
   have m2:b∈Qk a b c d:=qL.2 ⟨by simp,by rcases hs with⟨rfl,rfl⟩ |⟨rfl,rfl⟩ <;>simp [kd,wE,Wm]⟩
   obtain ⟨n1,n2⟩ :=jit m1 m2 hab
   unfold Qd;rw [if_neg n1,if_neg n2]
  by_cases hap:KU a b c d=true
  ·rw [if_pos hap]
  ·rw [if_neg hap,h3];simp [hs]
 ·rw [if_neg hs,hk]
  by_cases hap:KU a b c d=true
  ·rw [if_pos hap,YC hap];simp
  ·rw [if_neg hap]
   rcases LI a b c d with e | e | e | e<;>rw [e]
   ·simp
   ·have he:=hp (hk.trans e)
    simp only [if_pos,if_neg]
    generalize (Wb a b c d).2=p at he
    have hpm:p∈Qk a b c d:=by rw [he];simp
    have share:∀q,(q=a∨q=b)→(q=c∨q=d)→q=p:=fun q h1 h2=>by
     have:q∈Qk a b c d:=qL.2 ⟨by rcases h1 with rfl | rfl<;>simp,by rcases h1 with rfl | rfl<;>rcases h2 with rfl | rfl<;>simp [kd,wE,Wm]⟩
     rw [he] at this
     simpa using this
    have s1:=share a (.inl rfl);have s2:=share b (.inr rfl)
    simp
    by_cases e1:a=c
    ·have:=s1 (.inl e1);subst this;simp [e1]
    ·by_cases e2:a=d
     ·have:=s1 (.inr e2);subst this;simp [e2]
     ·by_cases e3:b=c
      ·have:=s2 (.inl e3);subst this;simp [e3]
      ·by_cases e4:b=d
       ·have:=s2 (.inr e4);subst this;simp [e4]
       ·simp only [e1,e2,e3,e4]
        simp
        rintro(rfl | rfl)
        ·exact⟨e1,e2⟩
        ·exact⟨e3,e4⟩
   ·simp
   ·simp [hs]
abbrev pV (p:Pn) :Value:= .agg #[.int .i64 p.1, .int .i64 p.2]
theorem VA {p:Pn} (h:bd2 p) :uW p.1∧uW p.2:=by
 obtain ⟨⟨h1,h2⟩,h3,h4⟩ :=h
 exact⟨⟨by omega,by omega⟩,by omega,by omega⟩
theorem Lh (a b c:Pn) (w:World) (ha:bd2 a) (hb:bd2 b) (hc:bd2 c) :Calls Tryz.prog 161 #[pV a,pV b,pV c] w fun e w'=>e= .returned (.int .i64 (tn a b c))∧Over w w':=by
 obtain ⟨a1,a2⟩ :=VA ha;obtain ⟨b1,b2⟩ :=VA hb;obtain ⟨c1,c2⟩ :=VA hc
 exact GV a.1 a.2 b.1 b.2 c.1 c.2 w a1.1 a1.2 a2.1 a2.2 b1.1 b1.2 b2.1 b2.2 c1.1 c1.2 c2.1 c2.2
theorem MM (a b c:Pn) (w:World) (ha:bd2 a) (hb:bd2 b) (hc:bd2 c) :Calls Tryz.prog 165 #[pV a,pV b,pV c] w fun e w'=>e= .returned (.bool (WW a b c))∧Over w w':=by
 obtain ⟨a1,a2⟩ :=VA ha;obtain ⟨b1,b2⟩ :=VA hb;obtain ⟨c1,c2⟩ :=VA hc
 exact DD a.1 a.2 b.1 b.2 c.1 c.2 w a1 a2 b1 b2 c1 c2
theorem z7 (a b:Pn) (w:World) (ha:bd2 a) (hb:bd2 b) :Calls Tryz.prog 164 #[pV a,pV b] w fun e w'=>e= .returned (.int .i64 (XN a b))∧Over w w':=by
 obtain ⟨⟨a1,a2⟩,a3,a4⟩ :=ha;obtain ⟨⟨b1,b2⟩,b3,b4⟩ :=hb
 refine j6 (m:=22) (Tryz.func164) J J (lb J) ?_;refine S3 ?_;refine aX (fun b1=> ?_);refine N1 ?_;refine aX (fun b2=> ?_);refine N11 ?_;refine cZ (fun c1=> ?_) (fun c1=> ?_)
 ·refine S7 ?_;refine a9 (jM Q4 J J (fun w h=>Calls.still (KC _ w))) ?_;refine S4 ?_;refine jK J (.tmp J) ?_
  intro w' hs
  exact⟨Y0 (by simp [XN,c1]),hs.fin⟩
 ·refine S9 ?_;refine a9 (jM Q4 J J (fun w h=>Calls.still (KC _ w))) ?_;refine S3 ?_;refine jK J (.tmp J) ?_
  intro w' hs
  exact⟨Y0 (by simp [XN,c1]),hs.fin⟩
theorem xX (a b:Pn) (w:World) (ha:bd2 a) (hb:bd2 b) :Calls Tryz.prog 163 #[pV a,pV b] w fun e w'=>e= .returned (pV (X8 a b))∧Over w w':=by
 refine j6 (m:=11) (Tryz.func163) J J (lb J) ?_;refine S3 ?_;refine aX (fun b1=> ?_);refine N1 ?_;refine aX (fun b2=> ?_);refine N1 ?_;refine aL (fun b3=> ?_);refine N6 ?_;refine a9 (jM W3 J J (fun w h=>z7 a b w ha hb)) ?_;refine S2 ?_;refine cZ (fun c1=> ?_) (fun c1=> ?_)
 ·refine S8 ?_;refine jK J (J8 (k:=2) J jk J J) ?_
  intro w' hs
  exact⟨by rw [X8,if_pos c1],hs.fin⟩
 ·refine S9 ?_;refine jK J (J8 (k:=2) J jk J J) ?_
  intro w' hs
  exact⟨by rw [X8,if_neg Om],hs.fin⟩
theorem Zh (a b:Pn) (w:World) (ha:bd2 a) (hb:bd2 b) :Calls Tryz.prog 162 #[pV a,pV b] w fun e w'=>e= .returned (pV (XX a b))∧Over w w':=by
 refine j6 (m:=11) (Tryz.func162) J J (lb J) ?_;refine S3 ?_;refine aX (fun b1=> ?_);refine N1 ?_;refine aX (fun b2=> ?_);refine N1 ?_;refine aL (fun b3=> ?_);refine N6 ?_;refine a9 (jM W3 J J (fun w h=>z7 a b w ha hb)) ?_;refine S2 ?_;refine cZ (fun c1=> ?_) (fun c1=> ?_)
 ·refine S8 ?_;refine jK J (J8 (k:=2) J jk J J) ?_
  intro w' hs
  exact⟨by rw [XX,if_pos c1],hs.fin⟩
 ·refine S9 ?_;refine jK J (J8 (k:=2) J jk J J) ?_
  intro w' hs
  exact⟨by rw [XX,if_neg Om],hs.fin⟩
theorem jhW (n:Int) : -1≤wR n∧wR n≤1:=by have:=Uq n;omega
theorem Y3 (m n:Int) : -1≤wR m*wR n∧wR m*wR n≤1:=by
 rcases Uq m with⟨_,e1⟩ |⟨_,e1⟩ |⟨_,e1⟩ <;>rcases Uq n with⟨_,e2⟩ |⟨_,e2⟩ |⟨_,e2⟩ <;>rw [e1,e2] <;>omega
abbrev mtV (r:Int×Pn) :Value:= .tuple #[.int .i64 r.1,pV r.2]
theorem Gc (k:Int) (p:Pn) {r:Int×Pn} (h:r= (k,p)) :Ending.returned (.tuple #[.int .i64 k,pV p]) =Ending.returned (mtV r) :=by rw [h]
theorem Ts (a b c d:Pn) (w:World) (ha:bd2 a) (hb:bd2 b) (hc:bd2 c) (hd:bd2 d) :Calls Tryz.prog 109 #[pV a,pV b,pV c,pV d] w fun e w'=>e= .returned (mtV (Wb a b c d))∧Over w w':=by
 have m1:=Y3 (tn a b c) (tn a b d)
 have m2:=Y3 (tn c d a) (tn c d b)
 have l1:= (Yb ha hb).2.1
 have l2:= (Yb hc hd).2.1
 have g1:= (Ya ha hb).2.1
 have g2:= (Ya hc hd).2.1
 refine j6 (m:=110) (Tryz.func109) J J (lb J) ?_;refine S3 ?_;refine aX (fun b1=> ?_);refine N1 ?_;refine aX (fun b2=> ?_);refine N1 ?_;refine aX (fun b3=> ?_);refine N1 ?_;refine aX (fun b4=> ?_);refine N2 ?_;refine aL (fun b5=> ?_);refine N3 ?_;refine JS 24 ?_;refine dK 0 ?_;refine dK 1 ?_;refine dK 2 ?_;refine dZ 3 J (jM KG J J (fun w h=>Lh _ _ _ w (by assumption) (by assumption) (by assumption))) ?_;refine dZ 4 J (jM Q4 J J (fun w h=>Calls.still (KC _ w))) ?_;refine dK 5 ?_;refine dK 6 ?_;refine dK 7 ?_;refine dZ 8 J (jM KG J J (fun w h=>Lh _ _ _ w (by assumption) (by assumption) (by assumption))) ?_;refine dZ 9 J (jM Q4 J J (fun w h=>Calls.still (KC _ w))) ?_;refine dK 10 ?_;refine dK 11 ?_;refine dK 12 ?_;refine dZ 13 J (jM KG J J (fun w h=>Lh _ _ _ w (by assumption) (by assumption) (by assumption))) ?_;refine dZ 14 J (jM Q4 J J (fun w h=>Calls.still (KC _ w))) ?_;refine dK 15 ?_;refine dK 16 ?_;refine dK 17 ?_;refine dZ 18 J (jM KG J J (fun w h=>Lh _ _ _ w (by assumption) (by assumption) (by assumption))) ?_;refine dZ 19 J (jM Q4 J J (fun w h=>Calls.still (KC _ w))) ?_;refine dK 20 ?_;refine dK 21 ?_;refine dK 22 ?_;refine dK 23 ?_;refine JJ Kr ?_;refine S2 ?_;refine qt [(49, .bool (XU a b c d))] (kK [4,5,6,7,8,9,10,11,12,13]) (fun L h_2=> ?_) ?_
 ·refine S4 ?_;refine cV 38 (fun g1=> ?_) (fun g1=> ?_)
  ·refine S6 ?_;refine cV 42 (fun g2=> ?_) (fun g2=> ?_)
   ·refine S6 ?_;refine cV 46 (fun g3=> ?_) (fun g3=> ?_)
    ·refine S6 ?_
     exact Jo h_2 ⟨vb (by simp [XU, *]),sz⟩ (u9 J)
    ·refine S4 ?_
     exact Jo h_2 ⟨vb (by simp [XU, *]),sz⟩ (u9 J)
   ·refine S8 ?_
    exact Jo h_2 ⟨vb (by simp [XU, *]),sz⟩ (u9 J)
  ·refine S12 ?_
   exact Jo h_2 ⟨vb (by simp [XU, *]),sz⟩ (u9 J)
 ·refine v9 ?_;refine cZ (fun c1=> ?_) (fun c1=> ?_)
  ·refine S2 ?_;refine JS 9 ?_;refine dK 0 ?_;refine dK 1 ?_;refine dZ 2 J (jM uK J J (fun w h=>xX _ _ w ha hb)) ?_;refine dK 3 ?_;refine dK 4 ?_;refine dZ 5 J (jM uK J J (fun w h=>xX _ _ w hc hd)) ?_;refine dZ 6 J (jM W5 J J (fun w h=>Zh _ _ w l1 l2)) ?_;refine J7 (i:=7) J Dc Kr J ?_;refine aL (fun b6=> ?_);refine n9 ?_;refine JN (u9 J) ?_;refine J7 (i:=8) J Dc Kr J ?_;refine S1 ?_;refine JN (u9 J) ?_;refine JJ Kr ?_;refine S3 ?_;refine JS 9 ?_;refine dK 0 ?_;refine dK 1 ?_;refine dZ 2 J (jM W5 J J (fun w h=>Zh _ _ w ha hb)) ?_;refine dK 3 ?_;refine dK 4 ?_;refine dZ 5 J (jM W5 J J (fun w h=>Zh _ _ w hc hd)) ?_;refine dZ 6 J (jM uK J J (fun w h=>xX _ _ w g1 g2)) ?_;refine J7 (i:=7) J Dc Kr J ?_;refine aL (fun b7=> ?_);refine n9 ?_;refine JN (u9 J) ?_;refine J7 (i:=8) J Dc Kr J ?_;refine S1 ?_;refine JN (u9 J) ?_;refine JJ Kr ?_;refine S6 ?_;refine a9 (jM W3 J J (fun w h=>z7 _ _ w (Ya l1 l2).2.1 (Yb g1 g2).2.1)) ?_;refine S7 ?_;refine cZ (fun c2=> ?_) (fun c2=> ?_)
   ·refine S2 ?_;refine Qv 3 [4] ?_;refine dK 0 ?_;refine dK 1 ?_;refine J7 (i:=2) J Dc Kr J ?_;refine S1 ?_;refine JN (uw [4] J) ?_;refine JJ Kr ?_;refine S5 ?_;refine qh J (.tmp J) (J8 (k:=4) J jk J J) ?_
    intro w' hs
    exact⟨Gc 1 (yG a b c d) (by rw [Wb,if_pos c1,if_pos (show XN (yG a b c d) (Uv a b c d) =0 from c2)]),hs.fin⟩
   ·refine S5 ?_;refine cZ (fun c3=> ?_) (fun c3=> ?_)
    ·refine S2 ?_;refine Qv 3 [4] ?_;refine dK 0 ?_;refine dK 1 ?_;refine J7 (i:=2) J Dc Kr J ?_;refine S1 ?_;refine JN (uw [4] J) ?_;refine JJ Kr ?_;refine S5 ?_;refine qh J (.tmp J) (J8 (k:=4) J jk J J) ?_
     intro w' hs
     exact⟨Gc 3 (yG a b c d) (by rw [Wb,if_pos c1,if_neg (show¬XN (yG a b c d) (Uv a b c d) =0 from c2),if_pos (show XN (yG a b c d) (Uv a b c d) = -1 from c3)]),hs.fin⟩
    ·refine S5 ?_;refine a9 (JR J J (YF)) ?_;refine S6 ?_;refine qh J (.tmp J) (J8 (k:=4) J jk J J) ?_
     intro w' hs
     exact⟨Gc 0 (0,0) (by rw [Wb,if_pos c1,if_neg (show¬XN (yG a b c d) (Uv a b c d) =0 from c2),if_neg (show¬XN (yG a b c d) (Uv a b c d) = -1 from c3)]),hs.fin⟩
  ·refine S3 ?_;refine qt [(83, .bool (qg a b c d))] (kK [4,5,6,7,8,9]) (fun L h_11=> ?_) ?_
   ·refine S6 ?_;refine cV 78 (fun g4=> ?_) (fun g4=> ?_)
    ·refine S10 ?_
     exact Jo h_11 ⟨vb (by simp [qg, *] <;>omega),sz⟩ (u9 J)
    ·refine S6 ?_
     exact Jo h_11 ⟨vb (by simp [qg, *] <;>omega),sz⟩ (u9 J)
   ·refine v9 ?_;refine cZ (fun c4=> ?_) (fun c4=> ?_)
    ·refine S2 ?_;refine a9 (JR J J (YF)) ?_;refine S6 ?_;refine qh J (.tmp J) (J8 (k:=4) J jk J J) ?_
     intro w' hs
     exact⟨Gc 2 (0,0) (by rw [Wb,if_neg (by simp [c1]),if_pos c4]),hs.fin⟩
    ·refine S9 ?_;refine a9 (jM VS J J (fun w h=>MM _ _ _ w (by assumption) (by assumption) (by assumption))) ?_;refine S2 ?_;refine cZ (fun c5=> ?_) (fun c5=> ?_)
     ·refine S2 ?_;refine Qv 3 [4] ?_;refine dK 0 ?_;refine dK 1 ?_;refine J7 (i:=2) J Dc Kr J ?_;refine S1 ?_;refine JN (uw [4] J) ?_;refine JJ Kr ?_;refine S4 ?_;refine qh J (.tmp J) (J8 (k:=4) J jk J J) ?_
      intro w' hs
      exact⟨Gc 1 c (by rw [Wb,if_neg (by simp [c1]),if_neg (by simp [c4]),if_pos c5]),hs.fin⟩
     ·refine S5 ?_;refine a9 (jM VS J J (fun w h=>MM _ _ _ w (by assumption) (by assumption) (by assumption))) ?_;refine S2 ?_;refine cZ (fun c6=> ?_) (fun c6=> ?_)
      ·refine S2 ?_;refine Qv 3 [4] ?_;refine dK 0 ?_;refine dK 1 ?_;refine J7 (i:=2) J Dc Kr J ?_;refine S1 ?_;refine JN (uw [4] J) ?_;refine JJ Kr ?_;refine S4 ?_;refine qh J (.tmp J) (J8 (k:=4) J jk J J) ?_
       intro w' hs
       exact⟨Gc 1 d (by rw [Wb,if_neg (by simp [c1]),if_neg (by simp [c4]),if_neg (by simp [c5]),if_pos c6]),hs.fin⟩
      ·refine S5 ?_;refine a9 (jM VS J J (fun w h=>MM _ _ _ w (by assumption) (by assumption) (by assumption))) ?_;refine S2 ?_;refine cZ (fun c7=> ?_) (fun c7=> ?_)
       ·refine S2 ?_;refine Qv 3 [4] ?_;refine dK 0 ?_;refine dK 1 ?_;refine J7 (i:=2) J Dc Kr J ?_;refine S1 ?_;refine JN (uw [4] J) ?_;refine JJ Kr ?_;refine S4 ?_;refine qh J (.tmp J) (J8 (k:=4) J jk J J) ?_
        intro w' hs
        exact⟨Gc 1 a (by rw [Wb,if_neg (by simp [c1]),if_neg (by simp [c4]),if_neg (by simp [c5]),if_neg (by simp [c6]),if_pos c7]),hs.fin⟩
       ·refine S5 ?_;refine a9 (jM VS J J (fun w h=>MM _ _ _ w (by assumption) (by assumption) (by assumption))) ?_;refine S2 ?_;refine cZ (fun c8=> ?_) (fun c8=> ?_)
        ·refine S2 ?_;refine Qv 3 [4] ?_;refine dK 0 ?_;refine dK 1 ?_;refine J7 (i:=2) J Dc Kr J ?_;refine S1 ?_;refine JN (uw [4] J) ?_;refine JJ Kr ?_;refine S4 ?_;refine qh J (.tmp J) (J8 (k:=4) J jk J J) ?_
         intro w' hs
         exact⟨Gc 1 b (by rw [Wb,if_neg (by simp [c1]),if_neg (by simp [c4]),if_neg (by simp [c5]),if_neg (by simp [c6]),if_neg (by simp [c7]),if_pos c8]),hs.fin⟩
        ·refine S5 ?_;refine a9 (JR J J (YF)) ?_;refine S5 ?_;refine qh J (.tmp J) (J8 (k:=4) J jk J J) ?_
         intro w' hs
         exact⟨Gc 0 (0,0) (by rw [Wb,if_neg (by simp [c1]),if_neg (by simp [c4]),if_neg (by simp [c5]),if_neg (by simp [c6]),if_neg (by simp [c7]),if_neg (by simp [c8])]),hs.fin⟩
end Go.Proofs.YtbahojdbmmjkcaaGreat
