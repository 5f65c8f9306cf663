import Derived.Test.YtbahojdbmmjkcaaGreatPOn
import Derived.Test.YtbahojdbmmjkcaaGreatPReg3
set_option linter.unusedVariables false
set_option linter.unusedSimpArgs false
namespace Go.Proofs.YtbahojdbmmjkcaaGreat
open Go Go.RowKit
set_option maxRecDepth 100000
set_option maxHeartbeats 4000000
open Go.RowKit
abbrev Pn:=Int×Int
def tn (a b c:Pn) :Int:=Kc a.1 a.2 b.1 b.2 c.1 c.2
def UJ (a b p:Pn) :Bool:=NR a.1 a.2 b.1 b.2 p.1 p.2
def bd2 (p:Pn) :Prop:= (-262144≤p.1∧p.1≤262144)∧-262144≤p.2∧p.2≤262144
theorem yM {p:Pn} (h:wF p.1 p.2=true) :bd2 p:=by
 simp [wF,Z7] at h
 exact⟨⟨by omega,by omega⟩,by omega,by omega⟩
def key (p:Pn) :Int:=p.1*1048576+p.2
theorem jc7 {p q:Pn} (hp:bd2 p) (hq:bd2 q) (h:key p=key q) :p=q:=by
 obtain ⟨x,y⟩ :=p;obtain ⟨x',y'⟩ :=q
 unfold bd2 key at*
 simp only at*
 have:x=x':=by omega
 subst this
 have:y=y':=by omega
 rw [this]
theorem Kf {a b p:Pn} :UJ a b p=true↔tn a b p=0∧(min a.1 b.1≤p.1∧p.1≤max a.1 b.1)∧min a.2 b.2≤p.2∧p.2≤max a.2 b.2:=by
 simp only [UJ,NR,tn,jgy,beq_iff_eq,decide_eq_true_eq]
 constructor
 ·rintro⟨⟨⟨⟨h1,h2⟩,h3⟩,h4⟩,h5⟩;exact⟨h1,⟨h2,h3⟩,h4,h5⟩
 ·rintro⟨h1,⟨h2,h3⟩,h4,h5⟩;exact⟨⟨⟨⟨h1,h2⟩,h3⟩,h4⟩,h5⟩
theorem RF {a b:Int} (h:a*b=0) :a=0∨b=0:=Int.mul_eq_zero.1 h
theorem par {x1 x2 y1 y2 u1 u2:Int} (hx:x1*u2- x2*u1=0) (hy:y1*u2- y2*u1=0) (hu:¬(u1=0∧u2=0)) :x1*y2- x2*y1=0:=by
 have e1:u1* (x1*y2- x2*y1) =0:=by grind
 have e2:u2* (x1*y2- x2*y1) =0:=by grind
 rcases RF e1 with h | h
 ·rcases RF e2 with h' | h'
  ·exact absurd ⟨h,h'⟩ hu
  ·exact h'
 ·exact h
theorem jfz {a b c d p q:Pn} (hp:UJ a b p=true) (hp':UJ c d p=true) (hq:UJ a b q=true) (hq':UJ c d q=true) (hne:p≠q) :
  tn a b c=0∧tn a b d=0∧tn c d a=0∧tn c d b=0:=by
 rw [Kf] at hp hp' hq hq'
 obtain ⟨a1,a2⟩ :=a;obtain ⟨b1,b2⟩ :=b;obtain ⟨c1,c2⟩ :=c;obtain ⟨d1,d2⟩ :=d;obtain ⟨p1,p2⟩ :=p;obtain ⟨q1,q2⟩ :=q
 simp only [tn,Kc] at*
 have hu:¬(q1- p1=0∧q2- p2=0) :=fun h=>hne (by rw [show p1=q1 by omega,show p2=q2 by omega])
 have hab: (b1- a1) * (q2- p2) - (b2- a2) * (q1- p1) =0:=by grind
 have hcd: (d1- c1) * (q2- p2) - (d2- c2) * (q1- p1) =0:=by grind
 have hpar:=par hab hcd hu
 have hcp: (c1- p1) * (q2- p2) - (c2- p2) * (q1- p1) =0:=by
  by_cases hz:d1- c1=0∧d2- c2=0
  ·have:p1=q1∧p2=q2:=by omega
   exact absurd (by rw [this.1,this.2]) hne
  ·have h1: (c1- p1) * (d2- c2) - (c2- p2) * (d1- c1) =0:=by grind
   have h2: (q1- p1) * (d2- c2) - (q2- p2) * (d1- c1) =0:=by grind
   exact par h1 h2 hz
 have hap: (a1- p1) * (q2- p2) - (a2- p2) * (q1- p1) =0:=by
  by_cases hz:b1- a1=0∧b2- a2=0
  ·have:p1=q1∧p2=q2:=by omega
   exact absurd (by rw [this.1,this.2]) hne
  ·have h1: (a1- p1) * (b2- a2) - (a2- p2) * (b1- a1) =0:=by grind
   have h2: (q1- p1) * (b2- a2) - (q2- p2) * (b1- a1) =0:=by grind
   exact par h1 h2 hz
 have k1:=par hab hcp hu
 have k2:=par hcd hap hu
 refine⟨?_,?_,?_,?_⟩ <;>grind
theorem jbk {a b p:Pn} (ha:bd2 a) (hb:bd2 b) (hp:bd2 p) (h:tn a b p=0) :UJ a b p=true↔min (key a) (key b)≤key p∧key p≤max (key a) (key b) :=by
 rw [Kf]
 obtain ⟨a1,a2⟩ :=a;obtain ⟨b1,b2⟩ :=b;obtain ⟨p1,p2⟩ :=p
 simp only [tn,Kc,key,bd2] at*
 constructor
 ·rintro⟨_,h2,h3⟩
  rcases jhp a1 b1 with hx | hx | hx
  ·by_cases e:p1=a1
   ·subst e
    have: (b1- p1) * (p2- a2) =0:=by grind
    rcases RF this with h4 | h4<;>omega
   ·by_cases e:p1=b1
    ·subst e
     have: (p1- a1) * (p2- b2) =0:=by grind
     rcases RF this with h4 | h4<;>omega
    ·omega
  ·omega
  ·by_cases e:p1=a1
   ·subst e
    have: (b1- p1) * (p2- a2) =0:=by grind
    rcases RF this with h4 | h4<;>omega
   ·by_cases e:p1=b1
    ·subst e
     have: (p1- a1) * (p2- b2) =0:=by grind
     rcases RF this with h4 | h4<;>omega
    ·omega
 ·intro h2
  have hx:min a1 b1≤p1∧p1≤max a1 b1:=by omega
  refine⟨h,hx,?_⟩
  rcases jhp a1 b1 with hl | hl | hl
  ·have k1:0≤p1- a1:=by omega
   have k2:p1- a1≤b1- a1:=by omega
   have e: (b1- a1) * (p2- a2) = (b2- a2) * (p1- a1) :=by omega
   by_cases hy:a2≤b2
   ·have g1:0≤(b2- a2) * (p1- a1) :=jg9 Om k1
    have g2: (b2- a2) * (p1- a1)≤(b2- a2) * (b1- a1) :=jg5 k2 Om
    have g3: (b1- a1) * (p2- a2)≤(b1- a1) * (b2- a2) :=by rw [e,jha (b1- a1)];exact g2
    have g4: (b1- a1) *0≤(b1- a1) * (p2- a2) :=by rw [e];simpa using g1
    have:=jhC g3 Om
    have:=jhC g4 Om
    omega
   ·have g1:0≤(a2- b2) * (p1- a1) :=jg9 Om k1
    have g2: (a2- b2) * (p1- a1)≤(a2- b2) * (b1- a1) :=jg5 k2 Om
    have e': (b1- a1) * (a2- p2) = (a2- b2) * (p1- a1) :=by grind
    have g3: (b1- a1) * (a2- p2)≤(b1- a1) * (a2- b2) :=by rw [e',jha (b1- a1)];exact g2
    have g4: (b1- a1) *0≤(b1- a1) * (a2- p2) :=by rw [e'];simpa using g1
    have:=jhC g3 Om
    have:=jhC g4 Om
    omega
  ·omega
  ·have k1:0≤a1- p1:=by omega
   have k2:a1- p1≤a1- b1:=by omega
   by_cases hy:a2≤b2
   ·have g1:0≤(b2- a2) * (a1- p1) :=jg9 Om k1
    have g2: (b2- a2) * (a1- p1)≤(b2- a2) * (a1- b1) :=jg5 k2 Om
    have e': (a1- b1) * (p2- a2) = (b2- a2) * (a1- p1) :=by grind
    have g3: (a1- b1) * (p2- a2)≤(a1- b1) * (b2- a2) :=by rw [e',jha (a1- b1)];exact g2
    have g4: (a1- b1) *0≤(a1- b1) * (p2- a2) :=by rw [e'];simpa using g1
    have:=jhC g3 Om
    have:=jhC g4 Om
    omega
   ·have g1:0≤(a2- b2) * (a1- p1) :=jg9 Om k1
    have g2: (a2- b2) * (a1- p1)≤(a2- b2) * (a1- b1) :=jg5 k2 Om
    have e': (a1- b1) * (a2- p2) = (a2- b2) * (a1- p1) :=by grind
    have g3: (a1- b1) * (a2- p2)≤(a1- b1) * (a2- b2) :=by rw [e',jha (a1- b1)];exact g2
    have g4: (a1- b1) *0≤(a1- b1) * (a2- p2) :=by rw [e'];simpa using g1
    have:=jhC g3 Om
    have:=jhC g4 Om
    omega
def xi (p q:Pn) :Int:=if p.1=q.1 then wZ (p.2- q.2) else wZ (p.1- q.1)
theorem W9 (n:Int) : (n<0∧wZ n= -1)∨(n=0∧wZ n=0)∨(0<n∧wZ n=1) :=by unfold wZ;split<;> (try split) <;>omega
theorem LL {p q:Pn} (hp:bd2 p) (hq:bd2 q) :xi p q=wZ (key p- key q) :=by
 obtain ⟨x,y⟩ :=p;obtain ⟨x',y'⟩ :=q
 unfold bd2 xi key at*
 simp only at*
 have h1:=W9 (y- y');have h2:=W9 (x- x');have h3:=W9 (x*1048576+y- (x'*1048576+y'))
 split<;>omega
def xC (a b:Pn) :Pn:=if xi a b≤0 then a else b
def xr (a b:Pn) :Pn:=if 0≤xi a b then a else b
theorem U3 {p q:Pn} (hp:bd2 p) (hq:bd2 q) :key (xC p q) =min (key p) (key q)∧bd2 (xC p q)∧(xC p q=p∨xC p q=q) :=by
 unfold xC;rw [LL hp hq]
 have:=W9 (key p- key q)
 split
 ·exact⟨by omega,hp, .inl rfl⟩
 ·exact⟨by omega,hq, .inr rfl⟩
theorem UZ {p q:Pn} (hp:bd2 p) (hq:bd2 q) :key (xr p q) =max (key p) (key q)∧bd2 (xr p q)∧(xr p q=p∨xr p q=q) :=by
 unfold xr;rw [LL hp hq]
 have:=W9 (key p- key q)
 split
 ·exact⟨by omega,hp, .inl rfl⟩
 ·exact⟨by omega,hq, .inr rfl⟩
def xn (a b c d:Pn) :Bool:= (wZ (tn a b c) ==0) && (wZ (tn a b d) ==0) && (wZ (tn c d a) ==0) && (wZ (tn c d b) ==0)
def qU (a b c d:Pn) :Bool:=decide (wZ (tn a b c) *wZ (tn a b d) <0) &&decide (wZ (tn c d a) *wZ (tn c d b) <0)
def UG (a b c d:Pn) :Pn:=xr (xC a b) (xC c d)
def ue (a b c d:Pn) :Pn:=xC (xr a b) (xr c d)
def Uj (a b c d:Pn) :Int×Pn:=
 if xn a b c d=true then
  (if xi (UG a b c d) (ue a b c d) =0 then(1,UG a b c d) else if xi (UG a b c d) (ue a b c d) = -1 then(3,UG a b c d) else(0,(0,0)))
 else if qU a b c d=true then(2,(0,0))
 else if UJ a b c=true then(1,c) else if UJ a b d=true then(1,d) else if UJ c d a=true then(1,a) else if UJ c d b=true then(1,b) else(0,(0,0))
def Kz (a b c d p:Pn) :Bool:=UJ a b p&&UJ c d p
def Ho (a b c d:Pn) (out:List Pn) (p:Pn) :List Pn:=if(!(out.contains p) &&Kz a b c d p) =true then out++ [p] else out
def Q3 (a b c d:Pn) :List Pn:=Ho a b c d (Ho a b c d (Ho a b c d (Ho a b c d [] a) b) c) d
def Q4 (a b c d:Pn) :Int:=if(Q3 a b c d).length=0 then(if qU a b c d=true then 2 else 0) else if(Q3 a b c d).length=1 then 1 else 3
theorem Eu {a b c d p q:Pn} {out:List Pn} :q∈Ho a b c d out p↔q∈out∨(q=p∧Kz a b c d p=true) :=by
 unfold Ho
 split
 ·rename_i h
  simp only [jgy] at h
  simp [h.2]
 ·rename_i h
  simp only [jgy,jhe,not_and,Bool.not_eq_true] at h
  constructor
  ·exact .inl
  ·rintro(h1 |⟨rfl,h1⟩)
   ·exact h1
   ·by_cases hc:out.contains q=true
    ·simpa using hc
    ·rw [h (by simpa using hc)] at h1;cases h1
theorem yp {a b c d p:Pn} {out:List Pn} (h:out.Nodup) : (Ho a b c d out p).Nodup:=by
 unfold Ho
 split
 ·rename_i h'
  simp only [jgy,jhe] at h'
  rw [List.nodup_append]
  exact⟨h,by simp,fun x hx y hy e=>by simp at hy;subst hy;subst e;have:=h'.1;simp at this;exact this hx⟩
 ·exact h
theorem Q9 {a b c d q:Pn} :q∈Q3 a b c d↔(q=a∨q=b∨q=c∨q=d)∧Kz a b c d q=true:=by
 unfold Q3
 simp only [Eu,jhz,false_or]
 constructor
 ·rintro(((⟨rfl,h⟩ |⟨rfl,h⟩) |⟨rfl,h⟩) |⟨rfl,h⟩)
  ·exact⟨.inl rfl,h⟩
  ·exact⟨.inr (.inl rfl),h⟩
  ·exact⟨.inr (.inr (.inl rfl)),h⟩
  ·exact⟨.inr (.inr (.inr rfl)),h⟩
 ·rintro⟨rfl | rfl | rfl | rfl,h⟩
  ·exact .inl (.inl (.inl ⟨rfl,h⟩))
  ·exact .inl (.inl (.inr ⟨rfl,h⟩))
  ·exact .inl (.inr ⟨rfl,h⟩)
  ·exact .inr ⟨rfl,h⟩
theorem GH (a b c d:Pn) : (Q3 a b c d).Nodup:=yp (yp (yp (yp List.nodup_nil)))
theorem jda {l:List Pn} (h:∀q,q∉l) :l.length=0:=by
 cases l with
 | nil=>rfl
 | cons a r=>exact absurd (jgZ) (h a)
theorem jfP {l:List Pn} {p:Pn} (hn:l.Nodup) (hp:p∈l) (h:∀q∈l,q=p) :l= [p] :=by
 match l,hn,hp,h with
 | [x],_,_,h=>rw [h x (by simp)]
 | x::y::r,hn,_,h=>
  have h1:=h x (by simp);have h2:=h y (by simp)
  rw [h1,h2] at hn
  simp at hn
theorem jgh {l:List Pn} {p q:Pn} (hp:p∈l) (hq:q∈l) (hne:p≠q) :¬l.length=0∧¬l.length=1:=by
 match l,hp,hq with
 | [x],hp,hq=>simp at hp hq;exact absurd (hp.trans hq.symm) hne
 | x::y::r,_,_=>simp
theorem x8 (a b:Pn) :UJ a b a=true:=by rw [Kf];simp only [tn,Kc];refine⟨by grind,?_⟩;omega
theorem H8 (a b:Pn) :UJ a b b=true:=by rw [Kf];simp only [tn,Kc];refine⟨by grind,?_⟩;omega
theorem Px {n:Int} : (wZ n==0) =true↔n=0:=by have:=W9 n;simp;omega
theorem zh {m n:Int} :wZ m*wZ n<0↔(m<0∧0<n)∨(0<m∧n<0) :=by
 rcases W9 m with⟨h1,e1⟩ |⟨h1,e1⟩ |⟨h1,e1⟩ <;>rcases W9 n with⟨h2,e2⟩ |⟨h2,e2⟩ |⟨h2,e2⟩ <;>rw [e1,e2] <;>omega
theorem BJ {a b c d:Pn} (ha:bd2 a) (hb:bd2 b) (hc:bd2 c) (hd:bd2 d) :
  (Uj a b c d).1=Q4 a b c d∧((Uj a b c d).1=1→Q3 a b c d= [(Uj a b c d).2]) :=by
 unfold Uj Q4
 by_cases hf:xn a b c d=true
 ·rw [if_pos hf]
  simp only [xn,jgy,Px] at hf
  obtain ⟨⟨⟨f1,f2⟩,f3⟩,f4⟩ :=hf
  have f5:tn a b a=0:=by simp only [tn,Kc];grind
  have f6:tn a b b=0:=by simp only [tn,Kc];grind
  have f7:tn c d c=0:=by simp only [tn,Kc];grind
  have f8:tn c d d=0:=by simp only [tn,Kc];grind
  obtain ⟨l1,l2,l3⟩ :=U3 ha hb
  obtain ⟨l4,l5,l6⟩ :=U3 hc hd
  obtain ⟨g1,g2,g3⟩ :=UZ ha hb
  obtain ⟨g4,g5,g6⟩ :=UZ hc hd
  obtain ⟨m1,m2,m3⟩ :=UZ l2 l5
  obtain ⟨m4,m5,m6⟩ :=U3 g2 g5
  have hns:qU a b c d=false:=by simp only [qU,f1,f3];simp [wZ]
  have key1:∀q,(q=a∨q=b∨q=c∨q=d)→(Kz a b c d q=true↔key (UG a b c d)≤key q∧key q≤key (ue a b c d)) :=by
   intro q hq
   have hqb:bd2 q:=by rcases hq with rfl | rfl | rfl | rfl<;>assumption
   have t1:tn a b q=0:=by rcases hq with rfl | rfl | rfl | rfl<;>assumption
   have t2:tn c d q=0:=by rcases hq with rfl | rfl | rfl | rfl<;>assumption
   simp only [Kz,jgy]
   rw [jbk ha hb hqb t1,jbk hc hd hqb t2]
   show _↔key (xr (xC a b) (xC c d))≤key q∧key q≤key (xC (xr a b) (xr c d))
   omega
  have hlow:UG a b c d=a∨UG a b c d=b∨UG a b c d=c∨UG a b c d=d:=by
   unfold UG
   rcases m3 with e | e<;>rw [e]
   ·rcases l3 with e | e<;>rw [e] <;>simp
   ·rcases l6 with e | e<;>rw [e] <;>simp
  have hhigh:ue a b c d=a∨ue a b c d=b∨ue a b c d=c∨ue a b c d=d:=by
   unfold ue
   rcases m6 with e | e<;>rw [e]
   ·rcases g3 with e | e<;>rw [e] <;>simp
   ·rcases g6 with e | e<;>rw [e] <;>simp
  have hlb:bd2 (UG a b c d) :=m2
  have hhb:bd2 (ue a b c d) :=m5
  rw [LL hlb hhb]
  rcases W9 (key (UG a b c d) - key (ue a b c d)) with⟨k1,e⟩ |⟨k1,e⟩ |⟨k1,e⟩
  ·rw [e,if_neg Om,if_pos rfl]
   have h1:UG a b c d∈Q3 a b c d:=Q9.2 ⟨hlow,(key1 _ hlow).2 Om⟩
   have h2:ue a b c d∈Q3 a b c d:=Q9.2 ⟨hhigh,(key1 _ hhigh).2 Om⟩
   obtain ⟨n1,n2⟩ :=jgh h1 h2 (fun e=>by rw [e] at k1;omega)
   rw [if_neg n1,if_neg n2]
   exact⟨rfl,fun h=>absurd h (by simp)⟩
  ·rw [e,if_pos rfl]
   have h1:UG a b c d∈Q3 a b c d:=Q9.2 ⟨hlow,(key1 _ hlow).2 Om⟩
   have hl:=jfP (GH a b c d) h1 fun q hq=>by
    obtain ⟨hq1,hq2⟩ :=Q9.1 hq
    have hqb:bd2 q:=by rcases hq1 with rfl | rfl | rfl | rfl<;>assumption
    have:= (key1 q hq1).1 hq2
    exact jc7 hqb hlb Om
   rw [hl]
   exact⟨rfl,fun _=>rfl⟩
  ·rw [e,if_neg Om,if_neg Om]
   have hl:=jda (l:=Q3 a b c d) fun q hq=>by
    obtain ⟨hq1,hq2⟩ :=Q9.1 hq
    have:= (key1 q hq1).1 hq2
    omega
   rw [if_pos hl,hns]
   exact⟨rfl,fun h=>absurd h (by simp)⟩
 ·rw [if_neg hf]
  have huniq:∀p q,Kz a b c d p=true→Kz a b c d q=true→p=q:=by
   intro p q hp hq
   simp only [Kz,jgy] at hp hq
   by_cases e:p=q
   ·exact e
   ·obtain ⟨t1,t2,t3,t4⟩ :=jfz hp.1 hp.2 hq.1 hq.2 e
    exact absurd (by simp only [xn,jgy,Px];exact⟨⟨⟨t1,t2⟩,t3⟩,t4⟩) hf
  have one:∀p,(p=a∨p=b∨p=c∨p=d)→Kz a b c d p=true→Q3 a b c d= [p] :=fun p hp hb=>
   jfP (GH a b c d) (Q9.2 ⟨hp,hb⟩) fun q hq=>huniq q p (Q9.1 hq).2 hb
  by_cases hs:qU a b c d=true
  ·rw [if_pos hs]
   have hs':=hs
   simp only [qU,jgy,decide_eq_true_eq,zh] at hs'
   have hl:=jda (l:=Q3 a b c d) fun q hq=>by
    obtain ⟨hq1,hq2⟩ :=Q9.1 hq
    simp only [Kz,jgy,Kf] at hq2
    rcases hq1 with rfl | rfl | rfl | rfl<;>omega
   rw [if_pos hl,if_pos hs]
   exact⟨rfl,fun h=>absurd h (by simp)⟩
  ·rw [if_neg hs]
   by_cases h1:UJ a b c=true
   ·rw [if_pos h1,one c (by simp) (by simp [Kz,h1,x8])]
    exact⟨rfl,fun _=>rfl⟩
   rw [if_neg h1]
   by_cases h2:UJ a b d=true
   ·rw [if_pos h2,one d (by simp) (by simp [Kz,h2,H8])]
    exact⟨rfl,fun _=>rfl⟩
   rw [if_neg h2]
   by_cases h3:UJ c d a=true
   ·rw [if_pos h3,one a (by simp) (by simp [Kz,h3,x8])]
    exact⟨rfl,fun _=>rfl⟩
   rw [if_neg h3]
   by_cases h4:UJ c d b=true
   ·rw [if_pos h4,one b (by simp) (by simp [Kz,h4,H8])]
    exact⟨rfl,fun _=>rfl⟩
   rw [if_neg h4]
   have hl:=jda (l:=Q3 a b c d) fun q hq=>by
    obtain ⟨hq1,hq2⟩ :=Q9.1 hq
    simp only [Kz,jgy] at hq2
    rcases hq1 with rfl | rfl | rfl | rfl
    ·exact h3 hq2.2
    ·exact h4 hq2.2
    ·exact h1 hq2.1
    ·exact h2 hq2.1
   rw [if_pos hl,if_neg hs]
   exact⟨rfl,fun h=>absurd h (by simp)⟩
def Wt (a b c d:Pn) :Bool:=decide (max a.1 b.1<min c.1 d.1) || decide (max c.1 d.1<min a.1 b.1) || decide (max a.2 b.2<min c.2 d.2) || decide (max c.2 d.2<min a.2 b.2)
theorem jfa {s t x y z:Int} (hs:s<0) (ht:0<t) (hx:x<z) (hy:y<z) :t*x- s*y< (t- s) *z:=by
 have h1:t*x<t*z:=jh7 hx ht
 have h2: -s*y< -s*z:=jh7 hy Om
 grind
theorem je9 {s t x y z:Int} (hs:s<0) (ht:0<t) (hx:z≤x) (hy:z≤y) : (t- s) *z≤t*x- s*y:=by
 have h1:t*z≤t*x:=jg5 hx Om
 have h2: -s*z≤-s*y:=jg5 hy Om
 grind
theorem zB {t1 t2 t3 t4 x y z u m:Int} (h12: (t1<0∧0<t2)∨(0<t1∧t2<0)) (h34: (t3<0∧0<t4)∨(0<t3∧t4<0))
  (e: (t4*x- t3*y) * (t2- t1) = (t2*z- t1*u) * (t4- t3)) :¬(x<m∧y<m∧m≤z∧m≤u) :=by
 rintro⟨h1,h2,h3,h4⟩
 have key:∀s t s' t':Int,s<0→0<t→s'<0→0<t'→(t'*x- s'*y) * (t- s) = (t*z- s*u) * (t'- s')→False:=by
  intro s t s' t' a1 a2 a3 a4 e
  have k1:=jfa a3 a4 h1 h2
  have k2:=je9 a1 a2 h3 h4
  have k3: (t'*x- s'*y) * (t- s) < ((t'- s') *m) * (t- s) :=jg6 k1 Om
  have k4: ((t- s) *m) * (t'- s')≤(t*z- s*u) * (t'- s') :=jgz k2 Om
  have k5: ((t'- s') *m) * (t- s) = ((t- s) *m) * (t'- s') :=by grind
  omega
 rcases h12 with⟨a1,a2⟩ |⟨a1,a2⟩ <;>rcases h34 with⟨a3,a4⟩ |⟨a3,a4⟩
 ·exact key t1 t2 t3 t4 a1 a2 a3 a4 e
 ·exact key t1 t2 (-t3) (-t4) a1 a2 Om Om (by grind)
 ·exact key (-t1) (-t2) t3 t4 Om Om a3 a4 (by grind)
 ·exact key (-t1) (-t2) (-t3) (-t4) Om Om Om Om (by grind)
theorem Su {a b c d:Pn} (h:Wt a b c d=true) :Q4 a b c d=0:=by
 have hne:∀q,Kz a b c d q=false:=by
  intro q
  cases hq:Kz a b c d q
  ·rfl
  ·simp only [Kz,jgy,Kf] at hq
   simp only [Wt,jhg,decide_eq_true_eq] at h
   omega
 have hl:=jda (l:=Q3 a b c d) fun q hq=>by
  have:= (Q9.1 hq).2
  rw [hne] at this
  cases this
 unfold Q4
 rw [if_pos hl,if_neg]
 intro hs
 simp only [qU,jgy,decide_eq_true_eq,zh] at hs
 obtain ⟨h1,h2⟩ :=hs
 simp only [Wt,jhg,decide_eq_true_eq] at h
 obtain ⟨a1,a2⟩ :=a;obtain ⟨b1,b2⟩ :=b;obtain ⟨c1,c2⟩ :=c;obtain ⟨d1,d2⟩ :=d
 simp only [tn] at h1 h2
 simp only at h
 have ex: (Kc c1 c2 d1 d2 b1 b2*a1- Kc c1 c2 d1 d2 a1 a2*b1) * (Kc a1 a2 b1 b2 d1 d2- Kc a1 a2 b1 b2 c1 c2) = (Kc a1 a2 b1 b2 d1 d2*c1- Kc a1 a2 b1 b2 c1 c2*d1) * (Kc c1 c2 d1 d2 b1 b2- Kc c1 c2 d1 d2 a1 a2) :=by
  simp only [Kc];grind
 have ey: (Kc c1 c2 d1 d2 b1 b2*a2- Kc c1 c2 d1 d2 a1 a2*b2) * (Kc a1 a2 b1 b2 d1 d2- Kc a1 a2 b1 b2 c1 c2) = (Kc a1 a2 b1 b2 d1 d2*c2- Kc a1 a2 b1 b2 c1 c2*d2) * (Kc c1 c2 d1 d2 b1 b2- Kc c1 c2 d1 d2 a1 a2) :=by
  simp only [Kc];grind
 rcases h with((h | h) | h) | h
 ·exact zB (m:=min c1 d1) h1 h2 ex Om
 ·exact zB (m:=min a1 b1) h2 h1 ex.symm Om
 ·exact zB (m:=min c2 d2) h1 h2 ey Om
 ·exact zB (m:=min a2 b2) h2 h1 ey.symm Om
def Xb (a b c d:Pn) :Bool:=
 if Wt a b c d=true then true
 else if Q4 a b c d=2 then false
 else if Q4 a b c d=1 then !(decide (a≠c) &&decide (a≠d) &&decide (b≠c) &&decide (b≠d))
 else if Q4 a b c d=3 then decide ((a=c∧b=d)∨(a=d∧b=c))
 else true
abbrev pV (p:Pn) :Value:= .agg #[.int .i64 p.1, .int .i64 p.2]
theorem vv {p:Pn} (h:bd2 p) :wA p.1∧wA p.2:=by
 obtain ⟨⟨h1,h2⟩,h3,h4⟩ :=h
 exact⟨⟨by omega,by omega⟩,by omega,by omega⟩
theorem Gx (a b c:Pn) (w:World) (ha:bd2 a) (hb:bd2 b) (hc:bd2 c) :Calls Tryz.prog 161 #[pV a,pV b,pV c] w fun e w'=>e= .returned (.int .i64 (tn a b c))∧Over w w':=by
 obtain ⟨a1,a2⟩ :=vv ha;obtain ⟨b1,b2⟩ :=vv hb;obtain ⟨c1,c2⟩ :=vv hc
 exact Xt a.1 a.2 b.1 b.2 c.1 c.2 w a1.1 a1.2 a2.1 a2.2 b1.1 b1.2 b2.1 b2.2 c1.1 c1.2 c2.1 c2.2
theorem H7 (a b c:Pn) (w:World) (ha:bd2 a) (hb:bd2 b) (hc:bd2 c) :Calls Tryz.prog 165 #[pV a,pV b,pV c] w fun e w'=>e= .returned (.bool (UJ a b c))∧Over w w':=by
 obtain ⟨a1,a2⟩ :=vv ha;obtain ⟨b1,b2⟩ :=vv hb;obtain ⟨c1,c2⟩ :=vv hc
 exact UK a.1 a.2 b.1 b.2 c.1 c.2 w a1 a2 b1 b2 c1 c2
theorem YP (a b:Pn) (w:World) (ha:bd2 a) (hb:bd2 b) :Calls Tryz.prog 164 #[pV a,pV b] w fun e w'=>e= .returned (.int .i64 (xi a b))∧Over w w':=by
 obtain ⟨⟨a1,a2⟩,a3,a4⟩ :=ha;obtain ⟨⟨b1,b2⟩,b3,b4⟩ :=hb
 refine jT (m:=22) (Tryz.func164) J J (lb J) ?_;refine S3 ?_;refine aX (fun b1=> ?_);refine N1 ?_;refine aX (fun b2=> ?_);refine N11 ?_;refine cZ (fun c1=> ?_) (fun c1=> ?_)
 ·refine S7 ?_;refine a9 (jJ QM J J (fun w h=>Calls.still (kX _ w))) ?_;refine S4 ?_;refine jL J (.tmp J) ?_
  intro w' hs
  exact⟨wm (by simp [xi,c1]),hs.fin⟩
 ·refine S9 ?_;refine a9 (jJ QM J J (fun w h=>Calls.still (kX _ w))) ?_;refine S3 ?_;refine jL J (.tmp J) ?_
  intro w' hs
  exact⟨wm (by simp [xi,c1]),hs.fin⟩
theorem ZI (a b:Pn) (w:World) (ha:bd2 a) (hb:bd2 b) :Calls Tryz.prog 163 #[pV a,pV b] w fun e w'=>e= .returned (pV (xC a b))∧Over w w':=by
 refine jT (m:=11) (Tryz.func163) J J (lb J) ?_;refine S3 ?_;refine aX (fun b1=> ?_);refine N1 ?_;refine aX (fun b2=> ?_);refine N1 ?_;refine aL (fun b3=> ?_);refine N6 ?_;refine a9 (jJ wP J J (fun w h=>YP a b w ha hb)) ?_;refine S2 ?_;refine cZ (fun c1=> ?_) (fun c1=> ?_)
 ·refine S8 ?_;refine jL J (qh (k:=2) J jj J J) ?_
  intro w' hs
  exact⟨by rw [xC,if_pos c1],hs.fin⟩
 ·refine S9 ?_;refine jL J (qh (k:=2) J jj J J) ?_
  intro w' hs
  exact⟨by rw [xC,if_neg Om],hs.fin⟩
theorem YV (a b:Pn) (w:World) (ha:bd2 a) (hb:bd2 b) :Calls Tryz.prog 162 #[pV a,pV b] w fun e w'=>e= .returned (pV (xr a b))∧Over w w':=by
 refine jT (m:=11) (Tryz.func162) J J (lb J) ?_;refine S3 ?_;refine aX (fun b1=> ?_);refine N1 ?_;refine aX (fun b2=> ?_);refine N1 ?_;refine aL (fun b3=> ?_);refine N6 ?_;refine a9 (jJ wP J J (fun w h=>YP a b w ha hb)) ?_;refine S2 ?_;refine cZ (fun c1=> ?_) (fun c1=> ?_)
 ·refine S8 ?_;refine jL J (qh (k:=2) J jj J J) ?_
  intro w' hs
  exact⟨by rw [xr,if_pos c1],hs.fin⟩
 ·refine S9 ?_;refine jL J (qh (k:=2) J jj J J) ?_
  intro w' hs
  exact⟨by rw [xr,if_neg Om],hs.fin⟩
theorem jfu (n:Int) : -1≤wZ n∧wZ n≤1:=by have:=W9 n;omega
theorem yS (m n:Int) : -1≤wZ m*wZ n∧wZ m*wZ n≤1:=by
 rcases W9 m with⟨_,e1⟩ |⟨_,e1⟩ |⟨_,e1⟩ <;>rcases W9 n with⟨_,e2⟩ |⟨_,e2⟩ |⟨_,e2⟩ <;>rw [e1,e2] <;>omega
abbrev mtV (r:Int×Pn) :Value:= .tuple #[.int .i64 r.1,pV r.2]
theorem xH (k:Int) (p:Pn) {r:Int×Pn} (h:r= (k,p)) :Ending.returned (.tuple #[.int .i64 k,pV p]) =Ending.returned (mtV r) :=by rw [h]
theorem RC (a b c d:Pn) (w:World) (ha:bd2 a) (hb:bd2 b) (hc:bd2 c) (hd:bd2 d) :Calls Tryz.prog 109 #[pV a,pV b,pV c,pV d] w fun e w'=>e= .returned (mtV (Uj a b c d))∧Over w w':=by
 have m1:=yS (tn a b c) (tn a b d)
 have m2:=yS (tn c d a) (tn c d b)
 have l1:= (U3 ha hb).2.1
 have l2:= (U3 hc hd).2.1
 have g1:= (UZ ha hb).2.1
 have g2:= (UZ hc hd).2.1
 refine jT (m:=110) (Tryz.func109) J J (lb J) ?_;refine S3 ?_;refine aX (fun b1=> ?_);refine N1 ?_;refine aX (fun b2=> ?_);refine N1 ?_;refine aX (fun b3=> ?_);refine N1 ?_;refine aX (fun b4=> ?_);refine N2 ?_;refine aL (fun b5=> ?_);refine N3 ?_;refine JS 24 ?_;refine dK 0 ?_;refine dK 1 ?_;refine dK 2 ?_;refine dZ 3 J (jJ Ke J J (fun w h=>Gx _ _ _ w (by assumption) (by assumption) (by assumption))) ?_;refine dZ 4 J (jJ QM J J (fun w h=>Calls.still (kX _ w))) ?_;refine dK 5 ?_;refine dK 6 ?_;refine dK 7 ?_;refine dZ 8 J (jJ Ke J J (fun w h=>Gx _ _ _ w (by assumption) (by assumption) (by assumption))) ?_;refine dZ 9 J (jJ QM J J (fun w h=>Calls.still (kX _ w))) ?_;refine dK 10 ?_;refine dK 11 ?_;refine dK 12 ?_;refine dZ 13 J (jJ Ke J J (fun w h=>Gx _ _ _ w (by assumption) (by assumption) (by assumption))) ?_;refine dZ 14 J (jJ QM J J (fun w h=>Calls.still (kX _ w))) ?_;refine dK 15 ?_;refine dK 16 ?_;refine dK 17 ?_;refine dZ 18 J (jJ Ke J J (fun w h=>Gx _ _ _ w (by assumption) (by assumption) (by assumption))) ?_;refine dZ 19 J (jJ QM J J (fun w h=>Calls.still (kX _ w))) ?_;refine dK 20 ?_;refine dK 21 ?_;refine dK 22 ?_;refine dK 23 ?_;refine JI Kr ?_;refine S2 ?_;refine qn [(49, .bool (xn a b c d))] (kK [4,5,6,7,8,9,10,11,12,13]) (fun L h_2=> ?_) ?_
 ·refine S4 ?_;refine cV 38 (fun g1=> ?_) (fun g1=> ?_)
  ·refine S6 ?_;refine cV 42 (fun g2=> ?_) (fun g2=> ?_)
   ·refine S6 ?_;refine cV 46 (fun g3=> ?_) (fun g3=> ?_)
    ·refine S6 ?_
     exact Jr h_2 ⟨vb (by simp [xn, *]),sz⟩ (u9 J)
    ·refine S4 ?_
     exact Jr h_2 ⟨vb (by simp [xn, *]),sz⟩ (u9 J)
   ·refine S8 ?_
    exact Jr h_2 ⟨vb (by simp [xn, *]),sz⟩ (u9 J)
  ·refine S12 ?_
   exact Jr h_2 ⟨vb (by simp [xn, *]),sz⟩ (u9 J)
 ·refine v9 ?_;refine cZ (fun c1=> ?_) (fun c1=> ?_)
  ·refine S2 ?_;refine JS 9 ?_;refine dK 0 ?_;refine dK 1 ?_;refine dZ 2 J (jJ WC J J (fun w h=>ZI _ _ w ha hb)) ?_;refine dK 3 ?_;refine dK 4 ?_;refine dZ 5 J (jJ WC J J (fun w h=>ZI _ _ w hc hd)) ?_;refine dZ 6 J (jJ wT J J (fun w h=>YV _ _ w l1 l2)) ?_;refine J8 (i:=7) J Dc Kr J ?_;refine aL (fun b6=> ?_);refine n9 ?_;refine JU (u9 J) ?_;refine J8 (i:=8) J Dc Kr J ?_;refine S1 ?_;refine JU (u9 J) ?_;refine JI Kr ?_;refine S3 ?_;refine JS 9 ?_;refine dK 0 ?_;refine dK 1 ?_;refine dZ 2 J (jJ wT J J (fun w h=>YV _ _ w ha hb)) ?_;refine dK 3 ?_;refine dK 4 ?_;refine dZ 5 J (jJ wT J J (fun w h=>YV _ _ w hc hd)) ?_;refine dZ 6 J (jJ WC J J (fun w h=>ZI _ _ w g1 g2)) ?_;refine J8 (i:=7) J Dc Kr J ?_;refine aL (fun b7=> ?_);refine n9 ?_;refine JU (u9 J) ?_;refine J8 (i:=8) J Dc Kr J ?_;refine S1 ?_;refine JU (u9 J) ?_;refine JI Kr ?_;refine S6 ?_;refine a9 (jJ wP J J (fun w h=>YP _ _ w (UZ l1 l2).2.1 (U3 g1 g2).2.1)) ?_;refine S7 ?_;refine cZ (fun c2=> ?_) (fun c2=> ?_)
   ·refine S2 ?_;refine QH 3 [4] ?_;refine dK 0 ?_;refine dK 1 ?_;refine J8 (i:=2) J Dc Kr J ?_;refine S1 ?_;refine JU (uw [4] J) ?_;refine JI Kr ?_;refine S5 ?_;refine qo J (.tmp J) (qh (k:=4) J jj J J) ?_
    intro w' hs
    exact⟨xH 1 (UG a b c d) (by rw [Uj,if_pos c1,if_pos (show xi (UG a b c d) (ue a b c d) =0 from c2)]),hs.fin⟩
   ·refine S5 ?_;refine cZ (fun c3=> ?_) (fun c3=> ?_)
    ·refine S2 ?_;refine QH 3 [4] ?_;refine dK 0 ?_;refine dK 1 ?_;refine J8 (i:=2) J Dc Kr J ?_;refine S1 ?_;refine JU (uw [4] J) ?_;refine JI Kr ?_;refine S5 ?_;refine qo J (.tmp J) (qh (k:=4) J jj J J) ?_
     intro w' hs
     exact⟨xH 3 (UG a b c d) (by rw [Uj,if_pos c1,if_neg (show¬xi (UG a b c d) (ue a b c d) =0 from c2),if_pos (show xi (UG a b c d) (ue a b c d) = -1 from c3)]),hs.fin⟩
    ·refine S5 ?_;refine a9 (J0 J J (yv)) ?_;refine S6 ?_;refine qo J (.tmp J) (qh (k:=4) J jj J J) ?_
     intro w' hs
     exact⟨xH 0 (0,0) (by rw [Uj,if_pos c1,if_neg (show¬xi (UG a b c d) (ue a b c d) =0 from c2),if_neg (show¬xi (UG a b c d) (ue a b c d) = -1 from c3)]),hs.fin⟩
  ·refine S3 ?_;refine qn [(83, .bool (qU a b c d))] (kK [4,5,6,7,8,9]) (fun L h_11=> ?_) ?_
   ·refine S6 ?_;refine cV 78 (fun g4=> ?_) (fun g4=> ?_)
    ·refine S10 ?_
     exact Jr h_11 ⟨vb (by simp [qU, *] <;>omega),sz⟩ (u9 J)
    ·refine S6 ?_
     exact Jr h_11 ⟨vb (by simp [qU, *] <;>omega),sz⟩ (u9 J)
   ·refine v9 ?_;refine cZ (fun c4=> ?_) (fun c4=> ?_)
    ·refine S2 ?_;refine a9 (J0 J J (yv)) ?_;refine S6 ?_;refine qo J (.tmp J) (qh (k:=4) J jj J J) ?_
     intro w' hs
     exact⟨xH 2 (0,0) (by rw [Uj,if_neg (by simp [c1]),if_pos c4]),hs.fin⟩
    ·refine S9 ?_;refine a9 (jJ kJ J J (fun w h=>H7 _ _ _ w (by assumption) (by assumption) (by assumption))) ?_;refine S2 ?_;refine cZ (fun c5=> ?_) (fun c5=> ?_)
     ·refine S2 ?_;refine QH 3 [4] ?_;refine dK 0 ?_;refine dK 1 ?_;refine J8 (i:=2) J Dc Kr J ?_;refine S1 ?_;refine JU (uw [4] J) ?_;refine JI Kr ?_;refine S4 ?_;refine qo J (.tmp J) (qh (k:=4) J jj J J) ?_
      intro w' hs
      exact⟨xH 1 c (by rw [Uj,if_neg (by simp [c1]),if_neg (by simp [c4]),if_pos c5]),hs.fin⟩
     ·refine S5 ?_;refine a9 (jJ kJ J J (fun w h=>H7 _ _ _ w (by assumption) (by assumption) (by assumption))) ?_;refine S2 ?_;refine cZ (fun c6=> ?_) (fun c6=> ?_)
      ·refine S2 ?_;refine QH 3 [4] ?_;refine dK 0 ?_;refine dK 1 ?_;refine J8 (i:=2) J Dc Kr J ?_;refine S1 ?_;refine JU (uw [4] J) ?_;refine JI Kr ?_;refine S4 ?_;refine qo J (.tmp J) (qh (k:=4) J jj J J) ?_
       intro w' hs
       exact⟨xH 1 d (by rw [Uj,if_neg (by simp [c1]),if_neg (by simp [c4]),if_neg (by simp [c5]),if_pos c6]),hs.fin⟩
      ·refine S5 ?_;refine a9 (jJ kJ J J (fun w h=>H7 _ _ _ w (by assumption) (by assumption) (by assumption))) ?_;refine S2 ?_;refine cZ (fun c7=> ?_) (fun c7=> ?_)
       ·refine S2 ?_;refine QH 3 [4] ?_;refine dK 0 ?_;refine dK 1 ?_;refine J8 (i:=2) J Dc Kr J ?_;refine S1 ?_;refine JU (uw [4] J) ?_;refine JI Kr ?_;refine S4 ?_;refine qo J (.tmp J) (qh (k:=4) J jj J J) ?_
        intro w' hs
        exact⟨xH 1 a (by rw [Uj,if_neg (by simp [c1]),if_neg (by simp [c4]),if_neg (by simp [c5]),if_neg (by simp [c6]),if_pos c7]),hs.fin⟩
       ·refine S5 ?_;refine a9 (jJ kJ J J (fun w h=>H7 _ _ _ w (by assumption) (by assumption) (by assumption))) ?_;refine S2 ?_;refine cZ (fun c8=> ?_) (fun c8=> ?_)
        ·refine S2 ?_;refine QH 3 [4] ?_;refine dK 0 ?_;refine dK 1 ?_;refine J8 (i:=2) J Dc Kr J ?_;refine S1 ?_;refine JU (uw [4] J) ?_;refine JI Kr ?_;refine S4 ?_;refine qo J (.tmp J) (qh (k:=4) J jj J J) ?_
         intro w' hs
         exact⟨xH 1 b (by rw [Uj,if_neg (by simp [c1]),if_neg (by simp [c4]),if_neg (by simp [c5]),if_neg (by simp [c6]),if_neg (by simp [c7]),if_pos c8]),hs.fin⟩
        ·refine S5 ?_;refine a9 (J0 J J (yv)) ?_;refine S5 ?_;refine qo J (.tmp J) (qh (k:=4) J jj J J) ?_
         intro w' hs
         exact⟨xH 0 (0,0) (by rw [Uj,if_neg (by simp [c1]),if_neg (by simp [c4]),if_neg (by simp [c5]),if_neg (by simp [c6]),if_neg (by simp [c7]),if_neg (by simp [c8])]),hs.fin⟩
end Go.Proofs.YtbahojdbmmjkcaaGreat
namespace Go.Proofs.YtbahojdbmmjkcaaGreat
open Go Go.RowKit
variable {A:Option Addr} {b c n o:Nat} {rs:List jK} {v:Value} {w:World} {xs:List (Int×Int)}
theorem q5 (xs:List (Int×Int)) : (xs.flatMap Ju).length=xs.length*2:=by
 induction xs with
 | nil=>rfl
 | cons a r ih=>rw [jgU,jgv,ih];simp [Ju];omega
theorem Ve (xs:List (Int×Int)) :∀u∈xs.flatMap Ju,u.oneCell'=true:=by
 intro u hu
 obtain ⟨p,_,hp⟩ :=jh3.1 hu
 simp [Ju] at hp
 rcases hp with rfl | rfl<;>rfl
theorem Gg:∀(xs:List (Int×Int)) (k j:Nat) (hk:k<xs.length),j<2→(xs.flatMap Ju)[k*2+j]? = (Ju xs[k])[j]?
 | [],_,_,h,_=>absurd h (by simp)
 | a::r,0,j,_,hj=>by
  rw [jgU,Nat.zero_mul,jgT,List.getElem?_append_left (by simpa [Ju] using hj)]
  rfl
 | a::r,k+1,j,h,hj=>by
  have hl: (Ju a).length=2:=rfl
  rw [jgU,List.getElem?_append_right (by rw [hl];omega),hl]
  have:=Gg r k j (by simpa using h) hj
  rw [show(k+1) *2+j- 2=k*2+j by omega,this]
  rfl
theorem MY (h:Pts w A n xs) (hn:0<n) :Src 2 (.slice A n c) n (xs.flatMap Ju) w:=by
 refine⟨by rw [q5,h.1], .inr ?_⟩
 obtain ⟨b,o,rfl,hb,hc⟩ :=h.2 hn
 refine⟨_,c,J,fun j u hu=> ?_⟩
 have hj:j<xs.length*2:=by have:= (List.getElem?_eq_some_iff.1 hu).1;rwa [q5] at this
 have hl:=h.1
 have e:j=j/2*2+j % 2:=by omega
 have hf:=Gg xs (j/2) (j % 2) Om Om
 rw [←e,hu,yq Om] at hf
 obtain ⟨h1,h2⟩ :=hc (j/2) Om
 rw [QJ]
 rcases(show j % 2=0∨j % 2=1 by omega) with e2 | e2
 ·rw [e2] at hf
  rw [show o+j=o+j/2*2 by omega,h1]
  simpa [Ju] using hf.symm
 ·rw [e2] at hf
  rw [show o+j=o+j/2*2+1 by omega,h2]
  simpa [Ju] using hf.symm
theorem WI {B T:Nat} (h:w.ownsRow B T 2 (.slice A n c) n (xs.flatMap Ju)) (hn:xs.length=n) :Pts w A n xs:=by
 refine⟨hn,fun h0=> ?_⟩
 rcases h.2 with⟨_,e⟩ |⟨g,cap,cur,e,hb,hg,hcap,hmax,hsz,htk⟩
 ·omega
 ·injection e with e1 e2 e3
  subst e1
  refine⟨g,0,J,JZ hg,fun k hk=> ?_⟩
  have hf:=fun q hq=>Gg xs k q Om hq
  have hc:∀j,j<n*2→cur[j]? = (xs.flatMap Ju)[j]? :=fun j hj=>by
   rw [←htk,List.getElem?_take,if_pos hj]
   simp
  rw [cell_of_row w g _ _ T (0,0) hg,cell_of_row w g _ _ T (0,0) hg,jgT,hc _ Om,hc _ Om]
  have h0:=hf 0 Om
  have h1:=hf 1 Om
  rw [yq Om] at h0 h1
  exact⟨by simpa [Ju] using h0,by simpa [Ju] using h1⟩
theorem W8 {B T s:Nat} {xs:List Value} (h:w.ownsRow B T s (.slice A n c) n xs) :n≤c:=by
 rcases h.2 with⟨e,_⟩ |⟨g,cap,cur,e,hb,hg,hcap,hmax,hsz,htk⟩
 ·injection e;omega
 ·injection e;omega
theorem Rings.form (h:Rings w A n rs) (hn:0<n) :∃b o,A=some ⟨b,o,none⟩ :=by
 obtain ⟨b,o,hA,_⟩ :=h.2 hn
 exact⟨b,o,hA⟩
theorem vO (h:JW rs=true) :rs.length≤40:=by
 simp [JW] at h
 omega
section
variable {w:World} {Rs:List Res}
theorem qP (hc:w.cell? ⟨b,o,none⟩ =some v) (hb:b<w.heap.size) :∀w',St ⟨w,[]⟩ Rs w'→w'.cell? ⟨b,o,none⟩ =some v:=fun w' hs=> ((Jt hs.fin).1 b o hb).trans hc
theorem uW {k:Nat} (hc:w.cell? ⟨b,o+k,none⟩ =some v) (hb:b<w.heap.size) :∀w',St ⟨w,[]⟩ Rs w'→∀q u,[v][q]? =some u→w'.cell? ⟨b,o+k*1+q,none⟩ =some u:=fun w' hs q u hq=>by
 match q,hq with
 | 0,hq=>simp at hq;subst hq;rw [jhn,jhV];exact qP hc hb w' hs
theorem Qn (hc:w.cell? ⟨b,o,none⟩ =some v) (hb:b<w.heap.size) :∀w',St ⟨w,[]⟩ Rs w'→w'.cell? ⟨b,o+0,none⟩ =some v:=fun w' hs=>qP hc hb w' hs
theorem Ts {k:Nat} (hc:w.cell? ⟨b,o+k,none⟩ =some v) (hb:b<w.heap.size) :∀w',St ⟨w,[]⟩ Rs w'→w'.cell? ⟨b,o+k*1+0,none⟩ =some v:=fun w' hs=>by rw [jhn,jhV];exact qP hc hb w' hs
end
theorem qS (h:qG xs=true) :0<xs.length∧xs.length≤400:=by simp [qG,Z7] at h;omega
end Go.Proofs.YtbahojdbmmjkcaaGreat
