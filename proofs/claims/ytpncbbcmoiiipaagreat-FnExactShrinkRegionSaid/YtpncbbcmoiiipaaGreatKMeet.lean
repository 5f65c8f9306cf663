import Derived.Test.YtpncbbcmoiiipaaGreatKOn
import Derived.Test.YtpncbbcmoiiipaaGreatKValidRegion
set_option linter.unusedVariables false
set_option linter.unusedSimpArgs false
namespace Go.Proofs.YtpncbbcmoiiipaaGreat
open Go Go.RowKit
set_option maxRecDepth 100000
set_option maxHeartbeats 4000000
open Go.RowKit
abbrev Pn:=Int×Int
def tn (a b c:Pn) :Int:=Q8 a.1 a.2 b.1 b.2 c.1 c.2
def uO (a b p:Pn) :Bool:=DT a.1 a.2 b.1 b.2 p.1 p.2
def bd2 (p:Pn) :Prop:= (-262144≤p.1∧p.1≤262144)∧-262144≤p.2∧p.2≤262144
def key (p:Pn) :Int:=p.1*1048576+p.2
theorem jeE {p q:Pn} (hp:bd2 p) (hq:bd2 q) (h:key p=key q) :p=q:=by
 obtain ⟨x,y⟩ :=p;obtain ⟨x',y'⟩ :=q
 unfold bd2 key at*
 simp only at*
 have:x=x':=by omega
 subst this
 have:y=y':=by omega
 rw [this]
theorem KE {a b p:Pn} :uO a b p=true↔tn a b p=0∧(min a.1 b.1≤p.1∧p.1≤max a.1 b.1)∧min a.2 b.2≤p.2∧p.2≤max a.2 b.2:=by
 simp only [uO,DT,tn,jig,beq_iff_eq,decide_eq_true_eq]
 constructor
 ·rintro⟨⟨⟨⟨h1,h2⟩,h3⟩,h4⟩,h5⟩;exact⟨h1,⟨h2,h3⟩,h4,h5⟩
 ·rintro⟨h1,⟨h2,h3⟩,h4,h5⟩;exact⟨⟨⟨⟨h1,h2⟩,h3⟩,h4⟩,h5⟩
theorem SK {a b:Int} (h:a*b=0) :a=0∨b=0:=Int.mul_eq_zero.1 h
theorem par {x1 x2 y1 y2 u1 u2:Int} (hx:x1*u2- x2*u1=0) (hy:y1*u2- y2*u1=0) (hu:¬(u1=0∧u2=0)) :x1*y2- x2*y1=0:=by
 have e1:u1* (x1*y2- x2*y1) =0:=by grind
 have e2:u2* (x1*y2- x2*y1) =0:=by grind
 rcases SK e1 with h | h
 ·rcases SK e2 with h' | h'
  ·exact absurd ⟨h,h'⟩ hu
  ·exact h'
 ·exact h
theorem jhc {a b c d p q:Pn} (hp:uO a b p=true) (hp':uO c d p=true) (hq:uO a b q=true) (hq':uO c d q=true) (hne:p≠q) :
  tn a b c=0∧tn a b d=0∧tn c d a=0∧tn c d b=0:=by
 rw [KE] at hp hp' hq hq'
 obtain ⟨a1,a2⟩ :=a;obtain ⟨b1,b2⟩ :=b;obtain ⟨c1,c2⟩ :=c;obtain ⟨d1,d2⟩ :=d;obtain ⟨p1,p2⟩ :=p;obtain ⟨q1,q2⟩ :=q
 simp only [tn,Q8] at*
 have hu:¬(q1- p1=0∧q2- p2=0) :=fun h=>hne (by rw [show p1=q1 by omega,show p2=q2 by omega])
 have hab: (b1- a1) * (q2- p2) - (b2- a2) * (q1- p1) =0:=by grind
 have hcd: (d1- c1) * (q2- p2) - (d2- c2) * (q1- p1) =0:=by grind
 have hpar:=par hab hcd hu
 have hcp: (c1- p1) * (q2- p2) - (c2- p2) * (q1- p1) =0:=by
  by_cases hz:d1- c1=0∧d2- c2=0
  ·have:p1=q1∧p2=q2:=by omega
   exact absurd (by rw [this.1,this.2]) hne
  ·have h1: (c1- p1) * (d2- c2) - (c2- p2) * (d1- c1) =0:=by grind
   have h2: (q1- p1) * (d2- c2) - (q2- p2) * (d1- c1) =0:=by grind
   exact par h1 h2 hz
 have hap: (a1- p1) * (q2- p2) - (a2- p2) * (q1- p1) =0:=by
  by_cases hz:b1- a1=0∧b2- a2=0
  ·have:p1=q1∧p2=q2:=by omega
   exact absurd (by rw [this.1,this.2]) hne
  ·have h1: (a1- p1) * (b2- a2) - (a2- p2) * (b1- a1) =0:=by grind
   have h2: (q1- p1) * (b2- a2) - (q2- p2) * (b1- a1) =0:=by grind
   exact par h1 h2 hz
 have k1:=par hab hcp hu
 have k2:=par hcd hap hu
 refine⟨?_,?_,?_,?_⟩ <;>grind
theorem jcD {a b p:Pn} (ha:bd2 a) (hb:bd2 b) (hp:bd2 p) (h:tn a b p=0) :uO a b p=true↔min (key a) (key b)≤key p∧key p≤max (key a) (key b) :=by
 rw [KE]
 obtain ⟨a1,a2⟩ :=a;obtain ⟨b1,b2⟩ :=b;obtain ⟨p1,p2⟩ :=p
 simp only [tn,Q8,key,bd2] at*
 constructor
 ·rintro⟨_,h2,h3⟩
  rcases ji1 a1 b1 with hx | hx | hx
  ·by_cases e:p1=a1
   ·subst e
    have: (b1- p1) * (p2- a2) =0:=by grind
    rcases SK this with h4 | h4<;>omega
   ·by_cases e:p1=b1
    ·subst e
     have: (p1- a1) * (p2- b2) =0:=by grind
     rcases SK this with h4 | h4<;>omega
    ·omega
  ·omega
  ·by_cases e:p1=a1
   ·subst e
    have: (b1- p1) * (p2- a2) =0:=by grind
    rcases SK this with h4 | h4<;>omega
   ·by_cases e:p1=b1
    ·subst e
     have: (p1- a1) * (p2- b2) =0:=by grind
     rcases SK this with h4 | h4<;>omega
    ·omega
 ·intro h2
  have hx:min a1 b1≤p1∧p1≤max a1 b1:=by omega
  refine⟨h,hx,?_⟩
  rcases ji1 a1 b1 with hl | hl | hl
  ·have k1:0≤p1- a1:=by omega
   have k2:p1- a1≤b1- a1:=by omega
   have e: (b1- a1) * (p2- a2) = (b2- a2) * (p1- a1) :=by omega
   by_cases hy:a2≤b2
   ·have g1:0≤(b2- a2) * (p1- a1) :=jiF Om k1
    have g2: (b2- a2) * (p1- a1)≤(b2- a2) * (b1- a1) :=jiT k2 Om
    have g3: (b1- a1) * (p2- a2)≤(b1- a1) * (b2- a2) :=by rw [e,jiV (b1- a1)];exact g2
    have g4: (b1- a1) *0≤(b1- a1) * (p2- a2) :=by rw [e];simpa using g1
    have:=jjt g3 Om
    have:=jjt g4 Om
    omega
   ·have g1:0≤(a2- b2) * (p1- a1) :=jiF Om k1
    have g2: (a2- b2) * (p1- a1)≤(a2- b2) * (b1- a1) :=jiT k2 Om
    have e': (b1- a1) * (a2- p2) = (a2- b2) * (p1- a1) :=by grind
    have g3: (b1- a1) * (a2- p2)≤(b1- a1) * (a2- b2) :=by rw [e',jiV (b1- a1)];exact g2
    have g4: (b1- a1) *0≤(b1- a1) * (a2- p2) :=by rw [e'];simpa using g1
    have:=jjt g3 Om
    have:=jjt g4 Om
    omega
  ·omega
  ·have k1:0≤a1- p1:=by omega
   have k2:a1- p1≤a1- b1:=by omega
   by_cases hy:a2≤b2
   ·have g1:0≤(b2- a2) * (a1- p1) :=jiF Om k1
    have g2: (b2- a2) * (a1- p1)≤(b2- a2) * (a1- b1) :=jiT k2 Om
    have e': (a1- b1) * (p2- a2) = (b2- a2) * (a1- p1) :=by grind
    have g3: (a1- b1) * (p2- a2)≤(a1- b1) * (b2- a2) :=by rw [e',jiV (a1- b1)];exact g2
    have g4: (a1- b1) *0≤(a1- b1) * (p2- a2) :=by rw [e'];simpa using g1
    have:=jjt g3 Om
    have:=jjt g4 Om
    omega
   ·have g1:0≤(a2- b2) * (a1- p1) :=jiF Om k1
    have g2: (a2- b2) * (a1- p1)≤(a2- b2) * (a1- b1) :=jiT k2 Om
    have e': (a1- b1) * (a2- p2) = (a2- b2) * (a1- p1) :=by grind
    have g3: (a1- b1) * (a2- p2)≤(a1- b1) * (a2- b2) :=by rw [e',jiV (a1- b1)];exact g2
    have g4: (a1- b1) *0≤(a1- b1) * (a2- p2) :=by rw [e'];simpa using g1
    have:=jjt g3 Om
    have:=jjt g4 Om
    omega
def Xg (p q:Pn) :Int:=if p.1=q.1 then wt (p.2- q.2) else wt (p.1- q.1)
theorem u7 (n:Int) : (n<0∧wt n= -1)∨(n=0∧wt n=0)∨(0<n∧wt n=1) :=by unfold wt;split<;> (try split) <;>omega
theorem MO {p q:Pn} (hp:bd2 p) (hq:bd2 q) :Xg p q=wt (key p- key q) :=by
 obtain ⟨x,y⟩ :=p;obtain ⟨x',y'⟩ :=q
 unfold bd2 Xg key at*
 simp only at*
 have h1:=u7 (y- y');have h2:=u7 (x- x');have h3:=u7 (x*1048576+y- (x'*1048576+y'))
 split<;>omega
def Xz (a b:Pn) :Pn:=if Xg a b≤0 then a else b
def Xq (a b:Pn) :Pn:=if 0≤Xg a b then a else b
theorem yM {p q:Pn} (hp:bd2 p) (hq:bd2 q) :key (Xz p q) =min (key p) (key q)∧bd2 (Xz p q)∧(Xz p q=p∨Xz p q=q) :=by
 unfold Xz;rw [MO hp hq]
 have:=u7 (key p- key q)
 split
 ·exact⟨by omega,hp, .inl rfl⟩
 ·exact⟨by omega,hq, .inr rfl⟩
theorem yK {p q:Pn} (hp:bd2 p) (hq:bd2 q) :key (Xq p q) =max (key p) (key q)∧bd2 (Xq p q)∧(Xq p q=p∨Xq p q=q) :=by
 unfold Xq;rw [MO hp hq]
 have:=u7 (key p- key q)
 split
 ·exact⟨by omega,hp, .inl rfl⟩
 ·exact⟨by omega,hq, .inr rfl⟩
def Xn (a b c d:Pn) :Bool:= (wt (tn a b c) ==0) && (wt (tn a b d) ==0) && (wt (tn c d a) ==0) && (wt (tn c d b) ==0)
def qf (a b c d:Pn) :Bool:=decide (wt (tn a b c) *wt (tn a b d) <0) &&decide (wt (tn c d a) *wt (tn c d b) <0)
def yq (a b c d:Pn) :Pn:=Xq (Xz a b) (Xz c d)
def Ue (a b c d:Pn) :Pn:=Xz (Xq a b) (Xq c d)
def wG (a b c d:Pn) :Int×Pn:=
 if Xn a b c d=true then
  (if Xg (yq a b c d) (Ue a b c d) =0 then(1,yq a b c d) else if Xg (yq a b c d) (Ue a b c d) = -1 then(3,yq a b c d) else(0,(0,0)))
 else if qf a b c d=true then(2,(0,0))
 else if uO a b c=true then(1,c) else if uO a b d=true then(1,d) else if uO c d a=true then(1,a) else if uO c d b=true then(1,b) else(0,(0,0))
def kk (a b c d p:Pn) :Bool:=uO a b p&&uO c d p
def LI (a b c d:Pn) (out:List Pn) (p:Pn) :List Pn:=if(!(out.contains p) &&kk a b c d p) =true then out++ [p] else out
def Qk (a b c d:Pn) :List Pn:=LI a b c d (LI a b c d (LI a b c d (LI a b c d [] a) b) c) d
def qU (a b c d:Pn) :Int:=if(Qk a b c d).length=0 then(if qf a b c d=true then 2 else 0) else if(Qk a b c d).length=1 then 1 else 3
theorem jaP {a b c d p q:Pn} {out:List Pn} :q∈LI a b c d out p↔q∈out∨(q=p∧kk a b c d p=true) :=by
 unfold LI
 split
 ·rename_i h
  simp only [jig] at h
  simp [h.2]
 ·rename_i h
  simp only [jig,ji2,not_and,Bool.not_eq_true] at h
  constructor
  ·exact .inl
  ·rintro(h1 |⟨rfl,h1⟩)
   ·exact h1
   ·by_cases hc:out.contains q=true
    ·simpa using hc
    ·rw [h (by simpa using hc)] at h1;cases h1
theorem Yh {a b c d p:Pn} {out:List Pn} (h:out.Nodup) : (LI a b c d out p).Nodup:=by
 unfold LI
 split
 ·rename_i h'
  simp only [jig,ji2] at h'
  rw [List.nodup_append]
  exact⟨h,by simp,fun x hx y hy e=>by simp at hy;subst hy;subst e;have:=h'.1;simp at this;exact this hx⟩
 ·exact h
theorem qL {a b c d q:Pn} :q∈Qk a b c d↔(q=a∨q=b∨q=c∨q=d)∧kk a b c d q=true:=by
 unfold Qk
 simp only [jaP,ji3,false_or]
 constructor
 ·rintro(((⟨rfl,h⟩ |⟨rfl,h⟩) |⟨rfl,h⟩) |⟨rfl,h⟩)
  ·exact⟨.inl rfl,h⟩
  ·exact⟨.inr (.inl rfl),h⟩
  ·exact⟨.inr (.inr (.inl rfl)),h⟩
  ·exact⟨.inr (.inr (.inr rfl)),h⟩
 ·rintro⟨rfl | rfl | rfl | rfl,h⟩
  ·exact .inl (.inl (.inl ⟨rfl,h⟩))
  ·exact .inl (.inl (.inr ⟨rfl,h⟩))
  ·exact .inl (.inr ⟨rfl,h⟩)
  ·exact .inr ⟨rfl,h⟩
theorem Wo (a b c d:Pn) : (Qk a b c d).Nodup:=Yh (Yh (Yh (Yh List.nodup_nil)))
theorem jeG {l:List Pn} (h:∀q,q∉l) :l.length=0:=by
 cases l with
 | nil=>rfl
 | cons a r=>exact absurd (jiE) (h a)
theorem jhz {l:List Pn} {p:Pn} (hn:l.Nodup) (hp:p∈l) (h:∀q∈l,q=p) :l= [p] :=by
 match l,hn,hp,h with
 | [x],_,_,h=>rw [h x (by simp)]
 | x::y::r,hn,_,h=>
  have h1:=h x (by simp);have h2:=h y (by simp)
  rw [h1,h2] at hn
  simp at hn
theorem jhA {l:List Pn} {p q:Pn} (hp:p∈l) (hq:q∈l) (hne:p≠q) :¬l.length=0∧¬l.length=1:=by
 match l,hp,hq with
 | [x],hp,hq=>simp at hp hq;exact absurd (hp.trans hq.symm) hne
 | x::y::r,_,_=>simp
theorem wh (a b:Pn) :uO a b a=true:=by rw [KE];simp only [tn,Q8];refine⟨by grind,?_⟩;omega
theorem wT (a b:Pn) :uO a b b=true:=by rw [KE];simp only [tn,Q8];refine⟨by grind,?_⟩;omega
theorem CJ {n:Int} : (wt n==0) =true↔n=0:=by have:=u7 n;simp;omega
theorem Zi {m n:Int} :wt m*wt n<0↔(m<0∧0<n)∨(0<m∧n<0) :=by
 rcases u7 m with⟨h1,e1⟩ |⟨h1,e1⟩ |⟨h1,e1⟩ <;>rcases u7 n with⟨h2,e2⟩ |⟨h2,e2⟩ |⟨h2,e2⟩ <;>rw [e1,e2] <;>omega
theorem GX {a b c d:Pn} (ha:bd2 a) (hb:bd2 b) (hc:bd2 c) (hd:bd2 d) :
  (wG a b c d).1=qU a b c d∧((wG a b c d).1=1→Qk a b c d= [(wG a b c d).2]) :=by
 unfold wG qU
 by_cases hf:Xn a b c d=true
 ·rw [if_pos hf]
  simp only [Xn,jig,CJ] at hf
  obtain ⟨⟨⟨f1,f2⟩,f3⟩,f4⟩ :=hf
  have f5:tn a b a=0:=by simp only [tn,Q8];grind
  have f6:tn a b b=0:=by simp only [tn,Q8];grind
  have f7:tn c d c=0:=by simp only [tn,Q8];grind
  have f8:tn c d d=0:=by simp only [tn,Q8];grind
  obtain ⟨l1,l2,l3⟩ :=yM ha hb
  obtain ⟨l4,l5,l6⟩ :=yM hc hd
  obtain ⟨g1,g2,g3⟩ :=yK ha hb
  obtain ⟨g4,g5,g6⟩ :=yK hc hd
  obtain ⟨m1,m2,m3⟩ :=yK l2 l5
  obtain ⟨m4,m5,m6⟩ :=yM g2 g5
  have hns:qf a b c d=false:=by simp only [qf,f1,f3];simp [wt]
  have key1:∀q,(q=a∨q=b∨q=c∨q=d)→(kk a b c d q=true↔key (yq a b c d)≤key q∧key q≤key (Ue a b c d)) :=by
   intro q hq
   have hqb:bd2 q:=by rcases hq with rfl | rfl | rfl | rfl<;>assumption
   have t1:tn a b q=0:=by rcases hq with rfl | rfl | rfl | rfl<;>assumption
   have t2:tn c d q=0:=by rcases hq with rfl | rfl | rfl | rfl<;>assumption
   simp only [kk,jig]
   rw [jcD ha hb hqb t1,jcD hc hd hqb t2]
   show _↔key (Xq (Xz a b) (Xz c d))≤key q∧key q≤key (Xz (Xq a b) (Xq c d))
   omega
  have hlow:yq a b c d=a∨yq a b c d=b∨yq a b c d=c∨yq a b c d=d:=by
   unfold yq
   rcases m3 with e | e<;>rw [e]
   ·rcases l3 with e | e<;>rw [e] <;>simp
   ·rcases l6 with e | e<;>rw [e] <;>simp
  have hhigh:Ue a b c d=a∨Ue a b c d=b∨Ue a b c d=c∨Ue a b c d=d:=by
   unfold Ue
   rcases m6 with e | e<;>rw [e]
   ·rcases g3 with e | e<;>rw [e] <;>simp
   ·rcases g6 with e | e<;>rw [e] <;>simp
  have hlb:bd2 (yq a b c d) :=m2
  have hhb:bd2 (Ue a b c d) :=m5
  rw [MO hlb hhb]
  rcases u7 (key (yq a b c d) - key (Ue a b c d)) with⟨k1,e⟩ |⟨k1,e⟩ |⟨k1,e⟩
  ·rw [e,if_neg Om,if_pos rfl]
   have h1:yq a b c d∈Qk a b c d:=qL.2 ⟨hlow,(key1 _ hlow).2 Om⟩
   have h2:Ue a b c d∈Qk a b c d:=qL.2 ⟨hhigh,(key1 _ hhigh).2 Om⟩
   obtain ⟨n1,n2⟩ :=jhA h1 h2 (fun e=>by rw [e] at k1;omega)
   rw [if_neg n1,if_neg n2]
   exact⟨rfl,fun h=>absurd h (by simp)⟩
  ·rw [e,if_pos rfl]
   have h1:yq a b c d∈Qk a b c d:=qL.2 ⟨hlow,(key1 _ hlow).2 Om⟩
   have hl:=jhz (Wo a b c d) h1 fun q hq=>by
    obtain ⟨hq1,hq2⟩ :=qL.1 hq
    have hqb:bd2 q:=by rcases hq1 with rfl | rfl | rfl | rfl<;>assumption
    have:= (key1 q hq1).1 hq2
    exact jeE hqb hlb Om
   rw [hl]
   exact⟨rfl,fun _=>rfl⟩
  ·rw [e,if_neg Om,if_neg Om]
   have hl:=jeG (l:=Qk a b c d) fun q hq=>by
    obtain ⟨hq1,hq2⟩ :=qL.1 hq
    have:= (key1 q hq1).1 hq2
    omega
   rw [if_pos hl,hns]
   exact⟨rfl,fun h=>absurd h (by simp)⟩
 ·rw [if_neg hf]
  have huniq:∀p q,kk a b c d p=true→kk a b c d q=true→p=q:=by
   intro p q hp hq
   simp only [kk,jig] at hp hq
   by_cases e:p=q
   ·exact e
   ·obtain ⟨t1,t2,t3,t4⟩ :=jhc hp.1 hp.2 hq.1 hq.2 e
    exact absurd (by simp only [Xn,jig,CJ];exact⟨⟨⟨t1,t2⟩,t3⟩,t4⟩) hf
  have one:∀p,(p=a∨p=b∨p=c∨p=d)→kk a b c d p=true→Qk a b c d= [p] :=fun p hp hb=>
   jhz (Wo a b c d) (qL.2 ⟨hp,hb⟩) fun q hq=>huniq q p (qL.1 hq).2 hb
  by_cases hs:qf a b c d=true
  ·rw [if_pos hs]
   have hs':=hs
   simp only [qf,jig,decide_eq_true_eq,Zi] at hs'
   have hl:=jeG (l:=Qk a b c d) fun q hq=>by
    obtain ⟨hq1,hq2⟩ :=qL.1 hq
    simp only [kk,jig,KE] at hq2
    rcases hq1 with rfl | rfl | rfl | rfl<;>omega
   rw [if_pos hl,if_pos hs]
   exact⟨rfl,fun h=>absurd h (by simp)⟩
  ·rw [if_neg hs]
   by_cases h1:uO a b c=true
   ·rw [if_pos h1,one c (by simp) (by simp [kk,h1,wh])]
    exact⟨rfl,fun _=>rfl⟩
   rw [if_neg h1]
   by_cases h2:uO a b d=true
   ·rw [if_pos h2,one d (by simp) (by simp [kk,h2,wT])]
    exact⟨rfl,fun _=>rfl⟩
   rw [if_neg h2]
   by_cases h3:uO c d a=true
   ·rw [if_pos h3,one a (by simp) (by simp [kk,h3,wh])]
    exact⟨rfl,fun _=>rfl⟩
   rw [if_neg h3]
   by_cases h4:uO c d b=true
   ·rw [if_pos h4,one b (by simp) (by simp [kk,h4,wT])]
    exact⟨rfl,fun _=>rfl⟩
   rw [if_neg h4]
   have hl:=jeG (l:=Qk a b c d) fun q hq=>by
    obtain ⟨hq1,hq2⟩ :=qL.1 hq
    simp only [kk,jig] at hq2
    rcases hq1 with rfl | rfl | rfl | rfl
    ·exact h3 hq2.2
    ·exact h4 hq2.2
    ·exact h1 hq2.1
    ·exact h2 hq2.1
   rw [if_pos hl,if_neg hs]
   exact⟨rfl,fun h=>absurd h (by simp)⟩
def kG (a b c d:Pn) :Bool:=decide (max a.1 b.1<min c.1 d.1) || decide (max c.1 d.1<min a.1 b.1) || decide (max a.2 b.2<min c.2 d.2) || decide (max c.2 d.2<min a.2 b.2)
theorem jgI {s t x y z:Int} (hs:s<0) (ht:0<t) (hx:x<z) (hy:y<z) :t*x- s*y< (t- s) *z:=by
 have h1:t*x<t*z:=jj5 hx ht
 have h2: -s*y< -s*z:=jj5 hy Om
 grind
theorem jgH {s t x y z:Int} (hs:s<0) (ht:0<t) (hx:z≤x) (hy:z≤y) : (t- s) *z≤t*x- s*y:=by
 have h1:t*z≤t*x:=jiT hx Om
 have h2: -s*z≤-s*y:=jiT hy Om
 grind
theorem Zw {t1 t2 t3 t4 x y z u m:Int} (h12: (t1<0∧0<t2)∨(0<t1∧t2<0)) (h34: (t3<0∧0<t4)∨(0<t3∧t4<0))
  (e: (t4*x- t3*y) * (t2- t1) = (t2*z- t1*u) * (t4- t3)) :¬(x<m∧y<m∧m≤z∧m≤u) :=by
 rintro⟨h1,h2,h3,h4⟩
 have key:∀s t s' t':Int,s<0→0<t→s'<0→0<t'→(t'*x- s'*y) * (t- s) = (t*z- s*u) * (t'- s')→False:=by
  intro s t s' t' a1 a2 a3 a4 e
  have k1:=jgI a3 a4 h1 h2
  have k2:=jgH a1 a2 h3 h4
  have k3: (t'*x- s'*y) * (t- s) < ((t'- s') *m) * (t- s) :=jiz k1 Om
  have k4: ((t- s) *m) * (t'- s')≤(t*z- s*u) * (t'- s') :=jij k2 Om
  have k5: ((t'- s') *m) * (t- s) = ((t- s) *m) * (t'- s') :=by grind
  omega
 rcases h12 with⟨a1,a2⟩ |⟨a1,a2⟩ <;>rcases h34 with⟨a3,a4⟩ |⟨a3,a4⟩
 ·exact key t1 t2 t3 t4 a1 a2 a3 a4 e
 ·exact key t1 t2 (-t3) (-t4) a1 a2 Om Om (by grind)
 ·exact key (-t1) (-t2) t3 t4 Om Om a3 a4 (by grind)
 ·exact key (-t1) (-t2) (-t3) (-t4) Om Om Om Om (by grind)
theorem Yi {a b c d:Pn} (h:kG a b c d=true) :qU a b c d=0:=by
 have hne:∀q,kk a b c d q=false:=by
  intro q
  cases hq:kk a b c d q
  ·rfl
  ·simp only [kk,jig,KE] at hq
   simp only [kG,ji4,decide_eq_true_eq] at h
   omega
 have hl:=jeG (l:=Qk a b c d) fun q hq=>by
  have:= (qL.1 hq).2
  rw [hne] at this
  cases this
 unfold qU
 rw [if_pos hl,if_neg]
 intro hs
 simp only [qf,jig,decide_eq_true_eq,Zi] at hs
 obtain ⟨h1,h2⟩ :=hs
 simp only [kG,ji4,decide_eq_true_eq] at h
 obtain ⟨a1,a2⟩ :=a;obtain ⟨b1,b2⟩ :=b;obtain ⟨c1,c2⟩ :=c;obtain ⟨d1,d2⟩ :=d
 simp only [tn] at h1 h2
 simp only at h
 have ex: (Q8 c1 c2 d1 d2 b1 b2*a1- Q8 c1 c2 d1 d2 a1 a2*b1) * (Q8 a1 a2 b1 b2 d1 d2- Q8 a1 a2 b1 b2 c1 c2) = (Q8 a1 a2 b1 b2 d1 d2*c1- Q8 a1 a2 b1 b2 c1 c2*d1) * (Q8 c1 c2 d1 d2 b1 b2- Q8 c1 c2 d1 d2 a1 a2) :=by
  simp only [Q8];grind
 have ey: (Q8 c1 c2 d1 d2 b1 b2*a2- Q8 c1 c2 d1 d2 a1 a2*b2) * (Q8 a1 a2 b1 b2 d1 d2- Q8 a1 a2 b1 b2 c1 c2) = (Q8 a1 a2 b1 b2 d1 d2*c2- Q8 a1 a2 b1 b2 c1 c2*d2) * (Q8 c1 c2 d1 d2 b1 b2- Q8 c1 c2 d1 d2 a1 a2) :=by
  simp only [Q8];grind
 rcases h with((h | h) | h) | h
 ·exact Zw (m:=min c1 d1) h1 h2 ex Om
 ·exact Zw (m:=min a1 b1) h2 h1 ex.symm Om
 ·exact Zw (m:=min c2 d2) h1 h2 ey Om
 ·exact Zw (m:=min a2 b2) h2 h1 ey.symm Om
def ve (a b c d:Pn) :Bool:=
 if kG a b c d=true then true
 else if qU a b c d=2 then false
 else if qU a b c d=1 then !(decide (a≠c) &&decide (a≠d) &&decide (b≠c) &&decide (b≠d))
 else if qU a b c d=3 then decide ((a=c∧b=d)∨(a=d∧b=c))
 else true
abbrev pV (p:Pn) :Value:= .agg #[.int .i64 p.1, .int .i64 p.2]
theorem Vr {p:Pn} (h:bd2 p) :uB p.1∧uB p.2:=by
 obtain ⟨⟨h1,h2⟩,h3,h4⟩ :=h
 exact⟨⟨by omega,by omega⟩,by omega,by omega⟩
theorem HG (a b c:Pn) (w:World) (ha:bd2 a) (hb:bd2 b) (hc:bd2 c) :Calls Tryz.prog 203 #[pV a,pV b,pV c] w fun e w'=>e= .returned (.int .i64 (tn a b c))∧Over w w':=by
 obtain ⟨a1,a2⟩ :=Vr ha;obtain ⟨b1,b2⟩ :=Vr hb;obtain ⟨c1,c2⟩ :=Vr hc
 exact Gl a.1 a.2 b.1 b.2 c.1 c.2 w a1.1 a1.2 a2.1 a2.2 b1.1 b1.2 b2.1 b2.2 c1.1 c1.2 c2.1 c2.2
theorem Mk (a b c:Pn) (w:World) (ha:bd2 a) (hb:bd2 b) (hc:bd2 c) :Calls Tryz.prog 207 #[pV a,pV b,pV c] w fun e w'=>e= .returned (.bool (uO a b c))∧Over w w':=by
 obtain ⟨a1,a2⟩ :=Vr ha;obtain ⟨b1,b2⟩ :=Vr hb;obtain ⟨c1,c2⟩ :=Vr hc
 exact BW a.1 a.2 b.1 b.2 c.1 c.2 w a1 a2 b1 b2 c1 c2
theorem zI (a b:Pn) (w:World) (ha:bd2 a) (hb:bd2 b) :Calls Tryz.prog 206 #[pV a,pV b] w fun e w'=>e= .returned (.int .i64 (Xg a b))∧Over w w':=by
 obtain ⟨⟨a1,a2⟩,a3,a4⟩ :=ha;obtain ⟨⟨b1,b2⟩,b3,b4⟩ :=hb
 refine Jh (m:=22) (Tryz.func206) J J (lb J) ?_;refine S3 ?_;refine aX (fun b1=> ?_);refine N1 ?_;refine aX (fun b2=> ?_);refine N11 ?_;refine cZ (fun c1=> ?_) (fun c1=> ?_)
 ·refine S7 ?_;refine a9 (jT Q6 J J (fun w h=>Calls.still (Kv _ w))) ?_;refine S4 ?_;refine jM J (.tmp J) ?_
  intro w' hs
  exact⟨YF (by simp [Xg,c1]),hs.fin⟩
 ·refine S9 ?_;refine a9 (jT Q6 J J (fun w h=>Calls.still (Kv _ w))) ?_;refine S3 ?_;refine jM J (.tmp J) ?_
  intro w' hs
  exact⟨YF (by simp [Xg,c1]),hs.fin⟩
theorem xw (a b:Pn) (w:World) (ha:bd2 a) (hb:bd2 b) :Calls Tryz.prog 205 #[pV a,pV b] w fun e w'=>e= .returned (pV (Xz a b))∧Over w w':=by
 refine Jh (m:=11) (Tryz.func205) J J (lb J) ?_;refine S3 ?_;refine aX (fun b1=> ?_);refine N1 ?_;refine aX (fun b2=> ?_);refine N1 ?_;refine aL (fun b3=> ?_);refine N6 ?_;refine a9 (jT WJ J J (fun w h=>zI a b w ha hb)) ?_;refine S2 ?_;refine cZ (fun c1=> ?_) (fun c1=> ?_)
 ·refine S8 ?_;refine jM J (qh (k:=2) J jj J J) ?_
  intro w' hs
  exact⟨by rw [Xz,if_pos c1],hs.fin⟩
 ·refine S9 ?_;refine jM J (qh (k:=2) J jj J J) ?_
  intro w' hs
  exact⟨by rw [Xz,if_neg Om],hs.fin⟩
theorem zP (a b:Pn) (w:World) (ha:bd2 a) (hb:bd2 b) :Calls Tryz.prog 204 #[pV a,pV b] w fun e w'=>e= .returned (pV (Xq a b))∧Over w w':=by
 refine Jh (m:=11) (Tryz.func204) J J (lb J) ?_;refine S3 ?_;refine aX (fun b1=> ?_);refine N1 ?_;refine aX (fun b2=> ?_);refine N1 ?_;refine aL (fun b3=> ?_);refine N6 ?_;refine a9 (jT WJ J J (fun w h=>zI a b w ha hb)) ?_;refine S2 ?_;refine cZ (fun c1=> ?_) (fun c1=> ?_)
 ·refine S8 ?_;refine jM J (qh (k:=2) J jj J J) ?_
  intro w' hs
  exact⟨by rw [Xq,if_pos c1],hs.fin⟩
 ·refine S9 ?_;refine jM J (qh (k:=2) J jj J J) ?_
  intro w' hs
  exact⟨by rw [Xq,if_neg Om],hs.fin⟩
theorem jg5 (n:Int) : -1≤wt n∧wt n≤1:=by have:=u7 n;omega
theorem YI (m n:Int) : -1≤wt m*wt n∧wt m*wt n≤1:=by
 rcases u7 m with⟨_,e1⟩ |⟨_,e1⟩ |⟨_,e1⟩ <;>rcases u7 n with⟨_,e2⟩ |⟨_,e2⟩ |⟨_,e2⟩ <;>rw [e1,e2] <;>omega
abbrev mtV (r:Int×Pn) :Value:= .tuple #[.int .i64 r.1,pV r.2]
theorem XC (k:Int) (p:Pn) {r:Int×Pn} (h:r= (k,p)) :Ending.returned (.tuple #[.int .i64 k,pV p]) =Ending.returned (mtV r) :=by rw [h]
theorem SH (a b c d:Pn) (w:World) (ha:bd2 a) (hb:bd2 b) (hc:bd2 c) (hd:bd2 d) :Calls Tryz.prog 163 #[pV a,pV b,pV c,pV d] w fun e w'=>e= .returned (mtV (wG a b c d))∧Over w w':=by
 have m1:=YI (tn a b c) (tn a b d)
 have m2:=YI (tn c d a) (tn c d b)
 have l1:= (yM ha hb).2.1
 have l2:= (yM hc hd).2.1
 have g1:= (yK ha hb).2.1
 have g2:= (yK hc hd).2.1
 refine Jh (m:=110) (Tryz.func163) J J (lb J) ?_;refine S3 ?_;refine aX (fun b1=> ?_);refine N1 ?_;refine aX (fun b2=> ?_);refine N1 ?_;refine aX (fun b3=> ?_);refine N1 ?_;refine aX (fun b4=> ?_);refine N2 ?_;refine aL (fun b5=> ?_);refine N3 ?_;refine JS 24 ?_;refine dK 0 ?_;refine dK 1 ?_;refine dK 2 ?_;refine dZ 3 J (jT KD J J (fun w h=>HG _ _ _ w (by assumption) (by assumption) (by assumption))) ?_;refine dZ 4 J (jT Q6 J J (fun w h=>Calls.still (Kv _ w))) ?_;refine dK 5 ?_;refine dK 6 ?_;refine dK 7 ?_;refine dZ 8 J (jT KD J J (fun w h=>HG _ _ _ w (by assumption) (by assumption) (by assumption))) ?_;refine dZ 9 J (jT Q6 J J (fun w h=>Calls.still (Kv _ w))) ?_;refine dK 10 ?_;refine dK 11 ?_;refine dK 12 ?_;refine dZ 13 J (jT KD J J (fun w h=>HG _ _ _ w (by assumption) (by assumption) (by assumption))) ?_;refine dZ 14 J (jT Q6 J J (fun w h=>Calls.still (Kv _ w))) ?_;refine dK 15 ?_;refine dK 16 ?_;refine dK 17 ?_;refine dZ 18 J (jT KD J J (fun w h=>HG _ _ _ w (by assumption) (by assumption) (by assumption))) ?_;refine dZ 19 J (jT Q6 J J (fun w h=>Calls.still (Kv _ w))) ?_;refine dK 20 ?_;refine dK 21 ?_;refine dK 22 ?_;refine dK 23 ?_;refine JK Kr ?_;refine S2 ?_;refine qt [(49, .bool (Xn a b c d))] (kK [4,5,6,7,8,9,10,11,12,13]) (fun L h_2=> ?_) ?_
 ·refine S4 ?_;refine cV 38 (fun g1=> ?_) (fun g1=> ?_)
  ·refine S6 ?_;refine cV 42 (fun g2=> ?_) (fun g2=> ?_)
   ·refine S6 ?_;refine cV 46 (fun g3=> ?_) (fun g3=> ?_)
    ·refine S6 ?_
     exact Jk h_2 ⟨vb (by simp [Xn, *]),sz⟩ (u9 J)
    ·refine S4 ?_
     exact Jk h_2 ⟨vb (by simp [Xn, *]),sz⟩ (u9 J)
   ·refine S8 ?_
    exact Jk h_2 ⟨vb (by simp [Xn, *]),sz⟩ (u9 J)
  ·refine S12 ?_
   exact Jk h_2 ⟨vb (by simp [Xn, *]),sz⟩ (u9 J)
 ·refine v9 ?_;refine cZ (fun c1=> ?_) (fun c1=> ?_)
  ·refine S2 ?_;refine JS 9 ?_;refine dK 0 ?_;refine dK 1 ?_;refine dZ 2 J (jT ur J J (fun w h=>xw _ _ w ha hb)) ?_;refine dK 3 ?_;refine dK 4 ?_;refine dZ 5 J (jT ur J J (fun w h=>xw _ _ w hc hd)) ?_;refine dZ 6 J (jT WL J J (fun w h=>zP _ _ w l1 l2)) ?_;refine qe (i:=7) J Dc Kr J ?_;refine aL (fun b6=> ?_);refine n9 ?_;refine JO (u9 J) ?_;refine qe (i:=8) J Dc Kr J ?_;refine S1 ?_;refine JO (u9 J) ?_;refine JK Kr ?_;refine S3 ?_;refine JS 9 ?_;refine dK 0 ?_;refine dK 1 ?_;refine dZ 2 J (jT WL J J (fun w h=>zP _ _ w ha hb)) ?_;refine dK 3 ?_;refine dK 4 ?_;refine dZ 5 J (jT WL J J (fun w h=>zP _ _ w hc hd)) ?_;refine dZ 6 J (jT ur J J (fun w h=>xw _ _ w g1 g2)) ?_;refine qe (i:=7) J Dc Kr J ?_;refine aL (fun b7=> ?_);refine n9 ?_;refine JO (u9 J) ?_;refine qe (i:=8) J Dc Kr J ?_;refine S1 ?_;refine JO (u9 J) ?_;refine JK Kr ?_;refine S6 ?_;refine a9 (jT WJ J J (fun w h=>zI _ _ w (yK l1 l2).2.1 (yM g1 g2).2.1)) ?_;refine S7 ?_;refine cZ (fun c2=> ?_) (fun c2=> ?_)
   ·refine S2 ?_;refine Qx 3 [4] ?_;refine dK 0 ?_;refine dK 1 ?_;refine qe (i:=2) J Dc Kr J ?_;refine S1 ?_;refine JO (uw [4] J) ?_;refine JK Kr ?_;refine S5 ?_;refine qv J (.tmp J) (qh (k:=4) J jj J J) ?_
    intro w' hs
    exact⟨XC 1 (yq a b c d) (by rw [wG,if_pos c1,if_pos (show Xg (yq a b c d) (Ue a b c d) =0 from c2)]),hs.fin⟩
   ·refine S5 ?_;refine cZ (fun c3=> ?_) (fun c3=> ?_)
    ·refine S2 ?_;refine Qx 3 [4] ?_;refine dK 0 ?_;refine dK 1 ?_;refine qe (i:=2) J Dc Kr J ?_;refine S1 ?_;refine JO (uw [4] J) ?_;refine JK Kr ?_;refine S5 ?_;refine qv J (.tmp J) (qh (k:=4) J jj J J) ?_
     intro w' hs
     exact⟨XC 3 (yq a b c d) (by rw [wG,if_pos c1,if_neg (show¬Xg (yq a b c d) (Ue a b c d) =0 from c2),if_pos (show Xg (yq a b c d) (Ue a b c d) = -1 from c3)]),hs.fin⟩
    ·refine S5 ?_;refine a9 (JU J J (Yl)) ?_;refine S6 ?_;refine qv J (.tmp J) (qh (k:=4) J jj J J) ?_
     intro w' hs
     exact⟨XC 0 (0,0) (by rw [wG,if_pos c1,if_neg (show¬Xg (yq a b c d) (Ue a b c d) =0 from c2),if_neg (show¬Xg (yq a b c d) (Ue a b c d) = -1 from c3)]),hs.fin⟩
  ·refine S3 ?_;refine qt [(83, .bool (qf a b c d))] (kK [4,5,6,7,8,9]) (fun L h_11=> ?_) ?_
   ·refine S6 ?_;refine cV 78 (fun g4=> ?_) (fun g4=> ?_)
    ·refine S10 ?_
     exact Jk h_11 ⟨vb (by simp [qf, *] <;>omega),sz⟩ (u9 J)
    ·refine S6 ?_
     exact Jk h_11 ⟨vb (by simp [qf, *] <;>omega),sz⟩ (u9 J)
   ·refine v9 ?_;refine cZ (fun c4=> ?_) (fun c4=> ?_)
    ·refine S2 ?_;refine a9 (JU J J (Yl)) ?_;refine S6 ?_;refine qv J (.tmp J) (qh (k:=4) J jj J J) ?_
     intro w' hs
     exact⟨XC 2 (0,0) (by rw [wG,if_neg (by simp [c1]),if_pos c4]),hs.fin⟩
    ·refine S9 ?_;refine a9 (jT VH J J (fun w h=>Mk _ _ _ w (by assumption) (by assumption) (by assumption))) ?_;refine S2 ?_;refine cZ (fun c5=> ?_) (fun c5=> ?_)
     ·refine S2 ?_;refine Qx 3 [4] ?_;refine dK 0 ?_;refine dK 1 ?_;refine qe (i:=2) J Dc Kr J ?_;refine S1 ?_;refine JO (uw [4] J) ?_;refine JK Kr ?_;refine S4 ?_;refine qv J (.tmp J) (qh (k:=4) J jj J J) ?_
      intro w' hs
      exact⟨XC 1 c (by rw [wG,if_neg (by simp [c1]),if_neg (by simp [c4]),if_pos c5]),hs.fin⟩
     ·refine S5 ?_;refine a9 (jT VH J J (fun w h=>Mk _ _ _ w (by assumption) (by assumption) (by assumption))) ?_;refine S2 ?_;refine cZ (fun c6=> ?_) (fun c6=> ?_)
      ·refine S2 ?_;refine Qx 3 [4] ?_;refine dK 0 ?_;refine dK 1 ?_;refine qe (i:=2) J Dc Kr J ?_;refine S1 ?_;refine JO (uw [4] J) ?_;refine JK Kr ?_;refine S4 ?_;refine qv J (.tmp J) (qh (k:=4) J jj J J) ?_
       intro w' hs
       exact⟨XC 1 d (by rw [wG,if_neg (by simp [c1]),if_neg (by simp [c4]),if_neg (by simp [c5]),if_pos c6]),hs.fin⟩
      ·refine S5 ?_;refine a9 (jT VH J J (fun w h=>Mk _ _ _ w (by assumption) (by assumption) (by assumption))) ?_;refine S2 ?_;refine cZ (fun c7=> ?_) (fun c7=> ?_)
       ·refine S2 ?_;refine Qx 3 [4] ?_;refine dK 0 ?_;refine dK 1 ?_;refine qe (i:=2) J Dc Kr J ?_;refine S1 ?_;refine JO (uw [4] J) ?_;refine JK Kr ?_;refine S4 ?_;refine qv J (.tmp J) (qh (k:=4) J jj J J) ?_
        intro w' hs
        exact⟨XC 1 a (by rw [wG,if_neg (by simp [c1]),if_neg (by simp [c4]),if_neg (by simp [c5]),if_neg (by simp [c6]),if_pos c7]),hs.fin⟩
       ·refine S5 ?_;refine a9 (jT VH J J (fun w h=>Mk _ _ _ w (by assumption) (by assumption) (by assumption))) ?_;refine S2 ?_;refine cZ (fun c8=> ?_) (fun c8=> ?_)
        ·refine S2 ?_;refine Qx 3 [4] ?_;refine dK 0 ?_;refine dK 1 ?_;refine qe (i:=2) J Dc Kr J ?_;refine S1 ?_;refine JO (uw [4] J) ?_;refine JK Kr ?_;refine S4 ?_;refine qv J (.tmp J) (qh (k:=4) J jj J J) ?_
         intro w' hs
         exact⟨XC 1 b (by rw [wG,if_neg (by simp [c1]),if_neg (by simp [c4]),if_neg (by simp [c5]),if_neg (by simp [c6]),if_neg (by simp [c7]),if_pos c8]),hs.fin⟩
        ·refine S5 ?_;refine a9 (JU J J (Yl)) ?_;refine S5 ?_;refine qv J (.tmp J) (qh (k:=4) J jj J J) ?_
         intro w' hs
         exact⟨XC 0 (0,0) (by rw [wG,if_neg (by simp [c1]),if_neg (by simp [c4]),if_neg (by simp [c5]),if_neg (by simp [c6]),if_neg (by simp [c7]),if_neg (by simp [c8])]),hs.fin⟩
end Go.Proofs.YtpncbbcmoiiipaaGreat
