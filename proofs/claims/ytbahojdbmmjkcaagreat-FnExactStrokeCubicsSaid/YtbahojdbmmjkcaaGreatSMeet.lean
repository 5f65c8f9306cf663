import Derived.Test.YtbahojdbmmjkcaaGreatSOn
import Derived.Test.YtbahojdbmmjkcaaGreatSValidRegion
set_option linter.unusedVariables false
set_option linter.unusedSimpArgs false
namespace Go.Proofs.YtbahojdbmmjkcaaGreat
open Go Go.RowKit
set_option maxRecDepth 100000
set_option maxHeartbeats 4000000
open Go.RowKit
abbrev Pn:=Int×Int
def tn (a b c:Pn) :Int:=Kw a.1 a.2 b.1 b.2 c.1 c.2
def UZ (a b p:Pn) :Bool:=onB a.1 a.2 b.1 b.2 p.1 p.2
def bd2 (p:Pn) :Prop:= (-262144≤p.1∧p.1≤262144)∧-262144≤p.2∧p.2≤262144
theorem Wi {p:Pn} (h:wX p.1 p.2=true) :bd2 p:=by
 simp [wX,Yt] at h
 exact⟨⟨by omega,by omega⟩,by omega,by omega⟩
def key (p:Pn) :Int:=p.1*1048576+p.2
theorem jeC {p q:Pn} (hp:bd2 p) (hq:bd2 q) (h:key p=key q) :p=q:=by
 obtain ⟨x,y⟩ :=p;obtain ⟨x',y'⟩ :=q
 unfold bd2 key at*
 simp only at*
 have:x=x':=by omega
 subst this
 have:y=y':=by omega
 rw [this]
theorem Ky {a b p:Pn} :UZ a b p=true↔tn a b p=0∧(min a.1 b.1≤p.1∧p.1≤max a.1 b.1)∧min a.2 b.2≤p.2∧p.2≤max a.2 b.2:=by
 simp only [UZ,onB,tn,jig,beq_iff_eq,decide_eq_true_eq]
 constructor
 ·rintro⟨⟨⟨⟨h1,h2⟩,h3⟩,h4⟩,h5⟩;exact⟨h1,⟨h2,h3⟩,h4,h5⟩
 ·rintro⟨h1,⟨h2,h3⟩,h4,h5⟩;exact⟨⟨⟨⟨h1,h2⟩,h3⟩,h4⟩,h5⟩
theorem Tk {a b:Int} (h:a*b=0) :a=0∨b=0:=Int.mul_eq_zero.1 h
theorem par {x1 x2 y1 y2 u1 u2:Int} (hx:x1*u2- x2*u1=0) (hy:y1*u2- y2*u1=0) (hu:¬(u1=0∧u2=0)) :x1*y2- x2*y1=0:=by
 have e1:u1* (x1*y2- x2*y1) =0:=by grind
 have e2:u2* (x1*y2- x2*y1) =0:=by grind
 rcases Tk e1 with h | h
 ·rcases Tk e2 with h' | h'
  ·exact absurd ⟨h,h'⟩ hu
  ·exact h'
 ·exact h
theorem jhc {a b c d p q:Pn} (hp:UZ a b p=true) (hp':UZ c d p=true) (hq:UZ a b q=true) (hq':UZ c d q=true) (hne:p≠q) :
  tn a b c=0∧tn a b d=0∧tn c d a=0∧tn c d b=0:=by
 rw [Ky] at hp hp' hq hq'
 obtain ⟨a1,a2⟩ :=a;obtain ⟨b1,b2⟩ :=b;obtain ⟨c1,c2⟩ :=c;obtain ⟨d1,d2⟩ :=d;obtain ⟨p1,p2⟩ :=p;obtain ⟨q1,q2⟩ :=q
 simp only [tn,Kw] at*
 have hu:¬(q1- p1=0∧q2- p2=0) :=fun h=>hne (by rw [show p1=q1 by omega,show p2=q2 by omega])
 have hab: (b1- a1) * (q2- p2) - (b2- a2) * (q1- p1) =0:=by grind
 have hcd: (d1- c1) * (q2- p2) - (d2- c2) * (q1- p1) =0:=by grind
 have hpar:=par hab hcd hu
 have hcp: (c1- p1) * (q2- p2) - (c2- p2) * (q1- p1) =0:=by
  by_cases hz:d1- c1=0∧d2- c2=0
  ·have:p1=q1∧p2=q2:=by omega
   exact absurd (by rw [this.1,this.2]) hne
  ·have h1: (c1- p1) * (d2- c2) - (c2- p2) * (d1- c1) =0:=by grind
   have h2: (q1- p1) * (d2- c2) - (q2- p2) * (d1- c1) =0:=by grind
   exact par h1 h2 hz
 have hap: (a1- p1) * (q2- p2) - (a2- p2) * (q1- p1) =0:=by
  by_cases hz:b1- a1=0∧b2- a2=0
  ·have:p1=q1∧p2=q2:=by omega
   exact absurd (by rw [this.1,this.2]) hne
  ·have h1: (a1- p1) * (b2- a2) - (a2- p2) * (b1- a1) =0:=by grind
   have h2: (q1- p1) * (b2- a2) - (q2- p2) * (b1- a1) =0:=by grind
   exact par h1 h2 hz
 have k1:=par hab hcp hu
 have k2:=par hcd hap hu
 refine⟨?_,?_,?_,?_⟩ <;>grind
theorem jcR {a b p:Pn} (ha:bd2 a) (hb:bd2 b) (hp:bd2 p) (h:tn a b p=0) :UZ a b p=true↔min (key a) (key b)≤key p∧key p≤max (key a) (key b) :=by
 rw [Ky]
 obtain ⟨a1,a2⟩ :=a;obtain ⟨b1,b2⟩ :=b;obtain ⟨p1,p2⟩ :=p
 simp only [tn,Kw,key,bd2] at*
 constructor
 ·rintro⟨_,h2,h3⟩
  rcases ji6 a1 b1 with hx | hx | hx
  ·by_cases e:p1=a1
   ·subst e
    have: (b1- p1) * (p2- a2) =0:=by grind
    rcases Tk this with h4 | h4<;>omega
   ·by_cases e:p1=b1
    ·subst e
     have: (p1- a1) * (p2- b2) =0:=by grind
     rcases Tk this with h4 | h4<;>omega
    ·omega
  ·omega
  ·by_cases e:p1=a1
   ·subst e
    have: (b1- p1) * (p2- a2) =0:=by grind
    rcases Tk this with h4 | h4<;>omega
   ·by_cases e:p1=b1
    ·subst e
     have: (p1- a1) * (p2- b2) =0:=by grind
     rcases Tk this with h4 | h4<;>omega
    ·omega
 ·intro h2
  have hx:min a1 b1≤p1∧p1≤max a1 b1:=by omega
  refine⟨h,hx,?_⟩
  rcases ji6 a1 b1 with hl | hl | hl
  ·have k1:0≤p1- a1:=by omega
   have k2:p1- a1≤b1- a1:=by omega
   have e: (b1- a1) * (p2- a2) = (b2- a2) * (p1- a1) :=by omega
   by_cases hy:a2≤b2
   ·have g1:0≤(b2- a2) * (p1- a1) :=jiP Om k1
    have g2: (b2- a2) * (p1- a1)≤(b2- a2) * (b1- a1) :=jiO k2 Om
    have g3: (b1- a1) * (p2- a2)≤(b1- a1) * (b2- a2) :=by rw [e,jiW (b1- a1)];exact g2
    have g4: (b1- a1) *0≤(b1- a1) * (p2- a2) :=by rw [e];simpa using g1
    have:=jjk g3 Om
    have:=jjk g4 Om
    omega
   ·have g1:0≤(a2- b2) * (p1- a1) :=jiP Om k1
    have g2: (a2- b2) * (p1- a1)≤(a2- b2) * (b1- a1) :=jiO k2 Om
    have e': (b1- a1) * (a2- p2) = (a2- b2) * (p1- a1) :=by grind
    have g3: (b1- a1) * (a2- p2)≤(b1- a1) * (a2- b2) :=by rw [e',jiW (b1- a1)];exact g2
    have g4: (b1- a1) *0≤(b1- a1) * (a2- p2) :=by rw [e'];simpa using g1
    have:=jjk g3 Om
    have:=jjk g4 Om
    omega
  ·omega
  ·have k1:0≤a1- p1:=by omega
   have k2:a1- p1≤a1- b1:=by omega
   by_cases hy:a2≤b2
   ·have g1:0≤(b2- a2) * (a1- p1) :=jiP Om k1
    have g2: (b2- a2) * (a1- p1)≤(b2- a2) * (a1- b1) :=jiO k2 Om
    have e': (a1- b1) * (p2- a2) = (b2- a2) * (a1- p1) :=by grind
    have g3: (a1- b1) * (p2- a2)≤(a1- b1) * (b2- a2) :=by rw [e',jiW (a1- b1)];exact g2
    have g4: (a1- b1) *0≤(a1- b1) * (p2- a2) :=by rw [e'];simpa using g1
    have:=jjk g3 Om
    have:=jjk g4 Om
    omega
   ·have g1:0≤(a2- b2) * (a1- p1) :=jiP Om k1
    have g2: (a2- b2) * (a1- p1)≤(a2- b2) * (a1- b1) :=jiO k2 Om
    have e': (a1- b1) * (a2- p2) = (a2- b2) * (a1- p1) :=by grind
    have g3: (a1- b1) * (a2- p2)≤(a1- b1) * (a2- b2) :=by rw [e',jiW (a1- b1)];exact g2
    have g4: (a1- b1) *0≤(a1- b1) * (a2- p2) :=by rw [e'];simpa using g1
    have:=jjk g3 Om
    have:=jjk g4 Om
    omega
def xX (p q:Pn) :Int:=if p.1=q.1 then Wv (p.2- q.2) else Wv (p.1- q.1)
theorem uz (n:Int) : (n<0∧Wv n= -1)∨(n=0∧Wv n=0)∨(0<n∧Wv n=1) :=by unfold Wv;split<;> (try split) <;>omega
theorem MD {p q:Pn} (hp:bd2 p) (hq:bd2 q) :xX p q=Wv (key p- key q) :=by
 obtain ⟨x,y⟩ :=p;obtain ⟨x',y'⟩ :=q
 unfold bd2 xX key at*
 simp only at*
 have h1:=uz (y- y');have h2:=uz (x- x');have h3:=uz (x*1048576+y- (x'*1048576+y'))
 split<;>omega
def Xj (a b:Pn) :Pn:=if xX a b≤0 then a else b
def x8 (a b:Pn) :Pn:=if 0≤xX a b then a else b
theorem yi {p q:Pn} (hp:bd2 p) (hq:bd2 q) :key (Xj p q) =min (key p) (key q)∧bd2 (Xj p q)∧(Xj p q=p∨Xj p q=q) :=by
 unfold Xj;rw [MD hp hq]
 have:=uz (key p- key q)
 split
 ·exact⟨by omega,hp, .inl rfl⟩
 ·exact⟨by omega,hq, .inr rfl⟩
theorem yg {p q:Pn} (hp:bd2 p) (hq:bd2 q) :key (x8 p q) =max (key p) (key q)∧bd2 (x8 p q)∧(x8 p q=p∨x8 p q=q) :=by
 unfold x8;rw [MD hp hq]
 have:=uz (key p- key q)
 split
 ·exact⟨by omega,hp, .inl rfl⟩
 ·exact⟨by omega,hq, .inr rfl⟩
def x6 (a b c d:Pn) :Bool:= (Wv (tn a b c) ==0) && (Wv (tn a b d) ==0) && (Wv (tn c d a) ==0) && (Wv (tn c d b) ==0)
def Qc (a b c d:Pn) :Bool:=decide (Wv (tn a b c) *Wv (tn a b d) <0) &&decide (Wv (tn c d a) *Wv (tn c d b) <0)
def UX (a b c d:Pn) :Pn:=x8 (Xj a b) (Xj c d)
def uI (a b c d:Pn) :Pn:=Xj (x8 a b) (x8 c d)
def UF (a b c d:Pn) :Int×Pn:=
 if x6 a b c d=true then
  (if xX (UX a b c d) (uI a b c d) =0 then(1,UX a b c d) else if xX (UX a b c d) (uI a b c d) = -1 then(3,UX a b c d) else(0,(0,0)))
 else if Qc a b c d=true then(2,(0,0))
 else if UZ a b c=true then(1,c) else if UZ a b d=true then(1,d) else if UZ c d a=true then(1,a) else if UZ c d b=true then(1,b) else(0,(0,0))
def KS (a b c d p:Pn) :Bool:=UZ a b p&&UZ c d p
def Ls (a b c d:Pn) (out:List Pn) (p:Pn) :List Pn:=if(!(out.contains p) &&KS a b c d p) =true then out++ [p] else out
def ky (a b c d:Pn) :List Pn:=Ls a b c d (Ls a b c d (Ls a b c d (Ls a b c d [] a) b) c) d
def kz (a b c d:Pn) :Int:=if(ky a b c d).length=0 then(if Qc a b c d=true then 2 else 0) else if(ky a b c d).length=1 then 1 else 3
theorem jbh {a b c d p q:Pn} {out:List Pn} :q∈Ls a b c d out p↔q∈out∨(q=p∧KS a b c d p=true) :=by
 unfold Ls
 split
 ·rename_i h
  simp only [jig] at h
  simp [h.2]
 ·rename_i h
  simp only [jig,ji0,not_and,Bool.not_eq_true] at h
  constructor
  ·exact .inl
  ·rintro(h1 |⟨rfl,h1⟩)
   ·exact h1
   ·by_cases hc:out.contains q=true
    ·simpa using hc
    ·rw [h (by simpa using hc)] at h1;cases h1
theorem yN {a b c d p:Pn} {out:List Pn} (h:out.Nodup) : (Ls a b c d out p).Nodup:=by
 unfold Ls
 split
 ·rename_i h'
  simp only [jig,ji0] at h'
  rw [List.nodup_append]
  exact⟨h,by simp,fun x hx y hy e=>by simp at hy;subst hy;subst e;have:=h'.1;simp at this;exact this hx⟩
 ·exact h
theorem kL {a b c d q:Pn} :q∈ky a b c d↔(q=a∨q=b∨q=c∨q=d)∧KS a b c d q=true:=by
 unfold ky
 simp only [jbh,ji3,false_or]
 constructor
 ·rintro(((⟨rfl,h⟩ |⟨rfl,h⟩) |⟨rfl,h⟩) |⟨rfl,h⟩)
  ·exact⟨.inl rfl,h⟩
  ·exact⟨.inr (.inl rfl),h⟩
  ·exact⟨.inr (.inr (.inl rfl)),h⟩
  ·exact⟨.inr (.inr (.inr rfl)),h⟩
 ·rintro⟨rfl | rfl | rfl | rfl,h⟩
  ·exact .inl (.inl (.inl ⟨rfl,h⟩))
  ·exact .inl (.inl (.inr ⟨rfl,h⟩))
  ·exact .inl (.inr ⟨rfl,h⟩)
  ·exact .inr ⟨rfl,h⟩
theorem HG (a b c d:Pn) : (ky a b c d).Nodup:=yN (yN (yN (yN List.nodup_nil)))
theorem jeE {l:List Pn} (h:∀q,q∉l) :l.length=0:=by
 cases l with
 | nil=>rfl
 | cons a r=>exact absurd (jiH) (h a)
theorem jhu {l:List Pn} {p:Pn} (hn:l.Nodup) (hp:p∈l) (h:∀q∈l,q=p) :l= [p] :=by
 match l,hn,hp,h with
 | [x],_,_,h=>rw [h x (by simp)]
 | x::y::r,hn,_,h=>
  have h1:=h x (by simp);have h2:=h y (by simp)
  rw [h1,h2] at hn
  simp at hn
theorem jhW {l:List Pn} {p q:Pn} (hp:p∈l) (hq:q∈l) (hne:p≠q) :¬l.length=0∧¬l.length=1:=by
 match l,hp,hq with
 | [x],hp,hq=>simp at hp hq;exact absurd (hp.trans hq.symm) hne
 | x::y::r,_,_=>simp
theorem XH (a b:Pn) :UZ a b a=true:=by rw [Ky];simp only [tn,Kw];refine⟨by grind,?_⟩;omega
theorem L3 (a b:Pn) :UZ a b b=true:=by rw [Ky];simp only [tn,Kw];refine⟨by grind,?_⟩;omega
theorem Ef {n:Int} : (Wv n==0) =true↔n=0:=by have:=uz n;simp;omega
theorem zZ {m n:Int} :Wv m*Wv n<0↔(m<0∧0<n)∨(0<m∧n<0) :=by
 rcases uz m with⟨h1,e1⟩ |⟨h1,e1⟩ |⟨h1,e1⟩ <;>rcases uz n with⟨h2,e2⟩ |⟨h2,e2⟩ |⟨h2,e2⟩ <;>rw [e1,e2] <;>omega
theorem Fb {a b c d:Pn} (ha:bd2 a) (hb:bd2 b) (hc:bd2 c) (hd:bd2 d) :
  (UF a b c d).1=kz a b c d∧((UF a b c d).1=1→ky a b c d= [(UF a b c d).2]) :=by
 unfold UF kz
 by_cases hf:x6 a b c d=true
 ·rw [if_pos hf]
  simp only [x6,jig,Ef] at hf
  obtain ⟨⟨⟨f1,f2⟩,f3⟩,f4⟩ :=hf
  have f5:tn a b a=0:=by simp only [tn,Kw];grind
  have f6:tn a b b=0:=by simp only [tn,Kw];grind
  have f7:tn c d c=0:=by simp only [tn,Kw];grind
  have f8:tn c d d=0:=by simp only [tn,Kw];grind
  obtain ⟨l1,l2,l3⟩ :=yi ha hb
  obtain ⟨l4,l5,l6⟩ :=yi hc hd
  obtain ⟨g1,g2,g3⟩ :=yg ha hb
  obtain ⟨g4,g5,g6⟩ :=yg hc hd
  obtain ⟨m1,m2,m3⟩ :=yg l2 l5
  obtain ⟨m4,m5,m6⟩ :=yi g2 g5
  have hns:Qc a b c d=false:=by simp only [Qc,f1,f3];simp [Wv]
  have key1:∀q,(q=a∨q=b∨q=c∨q=d)→(KS a b c d q=true↔key (UX a b c d)≤key q∧key q≤key (uI a b c d)) :=by
   intro q hq
   have hqb:bd2 q:=by rcases hq with rfl | rfl | rfl | rfl<;>assumption
   have t1:tn a b q=0:=by rcases hq with rfl | rfl | rfl | rfl<;>assumption
   have t2:tn c d q=0:=by rcases hq with rfl | rfl | rfl | rfl<;>assumption
   simp only [KS,jig]
   rw [jcR ha hb hqb t1,jcR hc hd hqb t2]
   show _↔key (x8 (Xj a b) (Xj c d))≤key q∧key q≤key (Xj (x8 a b) (x8 c d))
   omega
  have hlow:UX a b c d=a∨UX a b c d=b∨UX a b c d=c∨UX a b c d=d:=by
   unfold UX
   rcases m3 with e | e<;>rw [e]
   ·rcases l3 with e | e<;>rw [e] <;>simp
   ·rcases l6 with e | e<;>rw [e] <;>simp
  have hhigh:uI a b c d=a∨uI a b c d=b∨uI a b c d=c∨uI a b c d=d:=by
   unfold uI
   rcases m6 with e | e<;>rw [e]
   ·rcases g3 with e | e<;>rw [e] <;>simp
   ·rcases g6 with e | e<;>rw [e] <;>simp
  have hlb:bd2 (UX a b c d) :=m2
  have hhb:bd2 (uI a b c d) :=m5
  rw [MD hlb hhb]
  rcases uz (key (UX a b c d) - key (uI a b c d)) with⟨k1,e⟩ |⟨k1,e⟩ |⟨k1,e⟩
  ·rw [e,if_neg Om,if_pos rfl]
   have h1:UX a b c d∈ky a b c d:=kL.2 ⟨hlow,(key1 _ hlow).2 Om⟩
   have h2:uI a b c d∈ky a b c d:=kL.2 ⟨hhigh,(key1 _ hhigh).2 Om⟩
   obtain ⟨n1,n2⟩ :=jhW h1 h2 (fun e=>by rw [e] at k1;omega)
   rw [if_neg n1,if_neg n2]
   exact⟨rfl,fun h=>absurd h (by simp)⟩
  ·rw [e,if_pos rfl]
   have h1:UX a b c d∈ky a b c d:=kL.2 ⟨hlow,(key1 _ hlow).2 Om⟩
   have hl:=jhu (HG a b c d) h1 fun q hq=>by
    obtain ⟨hq1,hq2⟩ :=kL.1 hq
    have hqb:bd2 q:=by rcases hq1 with rfl | rfl | rfl | rfl<;>assumption
    have:= (key1 q hq1).1 hq2
    exact jeC hqb hlb Om
   rw [hl]
   exact⟨rfl,fun _=>rfl⟩
  ·rw [e,if_neg Om,if_neg Om]
   have hl:=jeE (l:=ky a b c d) fun q hq=>by
    obtain ⟨hq1,hq2⟩ :=kL.1 hq
    have:= (key1 q hq1).1 hq2
    omega
   rw [if_pos hl,hns]
   exact⟨rfl,fun h=>absurd h (by simp)⟩
 ·rw [if_neg hf]
  have huniq:∀p q,KS a b c d p=true→KS a b c d q=true→p=q:=by
   intro p q hp hq
   simp only [KS,jig] at hp hq
   by_cases e:p=q
   ·exact e
   ·obtain ⟨t1,t2,t3,t4⟩ :=jhc hp.1 hp.2 hq.1 hq.2 e
    exact absurd (by simp only [x6,jig,Ef];exact⟨⟨⟨t1,t2⟩,t3⟩,t4⟩) hf
  have one:∀p,(p=a∨p=b∨p=c∨p=d)→KS a b c d p=true→ky a b c d= [p] :=fun p hp hb=>
   jhu (HG a b c d) (kL.2 ⟨hp,hb⟩) fun q hq=>huniq q p (kL.1 hq).2 hb
  by_cases hs:Qc a b c d=true
  ·rw [if_pos hs]
   have hs':=hs
   simp only [Qc,jig,decide_eq_true_eq,zZ] at hs'
   have hl:=jeE (l:=ky a b c d) fun q hq=>by
    obtain ⟨hq1,hq2⟩ :=kL.1 hq
    simp only [KS,jig,Ky] at hq2
    rcases hq1 with rfl | rfl | rfl | rfl<;>omega
   rw [if_pos hl,if_pos hs]
   exact⟨rfl,fun h=>absurd h (by simp)⟩
  ·rw [if_neg hs]
   by_cases h1:UZ a b c=true
   ·rw [if_pos h1,one c (by simp) (by simp [KS,h1,XH])]
    exact⟨rfl,fun _=>rfl⟩
   rw [if_neg h1]
   by_cases h2:UZ a b d=true
   ·rw [if_pos h2,one d (by simp) (by simp [KS,h2,L3])]
    exact⟨rfl,fun _=>rfl⟩
   rw [if_neg h2]
   by_cases h3:UZ c d a=true
   ·rw [if_pos h3,one a (by simp) (by simp [KS,h3,XH])]
    exact⟨rfl,fun _=>rfl⟩
   rw [if_neg h3]
   by_cases h4:UZ c d b=true
   ·rw [if_pos h4,one b (by simp) (by simp [KS,h4,L3])]
    exact⟨rfl,fun _=>rfl⟩
   rw [if_neg h4]
   have hl:=jeE (l:=ky a b c d) fun q hq=>by
    obtain ⟨hq1,hq2⟩ :=kL.1 hq
    simp only [KS,jig] at hq2
    rcases hq1 with rfl | rfl | rfl | rfl
    ·exact h3 hq2.2
    ·exact h4 hq2.2
    ·exact h1 hq2.1
    ·exact h2 hq2.1
   rw [if_pos hl,if_neg hs]
   exact⟨rfl,fun h=>absurd h (by simp)⟩
def WQ (a b c d:Pn) :Bool:=decide (max a.1 b.1<min c.1 d.1) || decide (max c.1 d.1<min a.1 b.1) || decide (max a.2 b.2<min c.2 d.2) || decide (max c.2 d.2<min a.2 b.2)
theorem jgF {s t x y z:Int} (hs:s<0) (ht:0<t) (hx:x<z) (hy:y<z) :t*x- s*y< (t- s) *z:=by
 have h1:t*x<t*z:=jjV hx ht
 have h2: -s*y< -s*z:=jjV hy Om
 grind
theorem jgE {s t x y z:Int} (hs:s<0) (ht:0<t) (hx:z≤x) (hy:z≤y) : (t- s) *z≤t*x- s*y:=by
 have h1:t*z≤t*x:=jiO hx Om
 have h2: -s*z≤-s*y:=jiO hy Om
 grind
theorem Zp {t1 t2 t3 t4 x y z u m:Int} (h12: (t1<0∧0<t2)∨(0<t1∧t2<0)) (h34: (t3<0∧0<t4)∨(0<t3∧t4<0))
  (e: (t4*x- t3*y) * (t2- t1) = (t2*z- t1*u) * (t4- t3)) :¬(x<m∧y<m∧m≤z∧m≤u) :=by
 rintro⟨h1,h2,h3,h4⟩
 have key:∀s t s' t':Int,s<0→0<t→s'<0→0<t'→(t'*x- s'*y) * (t- s) = (t*z- s*u) * (t'- s')→False:=by
  intro s t s' t' a1 a2 a3 a4 e
  have k1:=jgF a3 a4 h1 h2
  have k2:=jgE a1 a2 h3 h4
  have k3: (t'*x- s'*y) * (t- s) < ((t'- s') *m) * (t- s) :=jiQ k1 Om
  have k4: ((t- s) *m) * (t'- s')≤(t*z- s*u) * (t'- s') :=jih k2 Om
  have k5: ((t'- s') *m) * (t- s) = ((t- s) *m) * (t'- s') :=by grind
  omega
 rcases h12 with⟨a1,a2⟩ |⟨a1,a2⟩ <;>rcases h34 with⟨a3,a4⟩ |⟨a3,a4⟩
 ·exact key t1 t2 t3 t4 a1 a2 a3 a4 e
 ·exact key t1 t2 (-t3) (-t4) a1 a2 Om Om (by grind)
 ·exact key (-t1) (-t2) t3 t4 Om Om a3 a4 (by grind)
 ·exact key (-t1) (-t2) (-t3) (-t4) Om Om Om Om (by grind)
theorem Nf {a b c d:Pn} (h:WQ a b c d=true) :kz a b c d=0:=by
 have hne:∀q,KS a b c d q=false:=by
  intro q
  cases hq:KS a b c d q
  ·rfl
  ·simp only [KS,jig,Ky] at hq
   simp only [WQ,ji2,decide_eq_true_eq] at h
   omega
 have hl:=jeE (l:=ky a b c d) fun q hq=>by
  have:= (kL.1 hq).2
  rw [hne] at this
  cases this
 unfold kz
 rw [if_pos hl,if_neg]
 intro hs
 simp only [Qc,jig,decide_eq_true_eq,zZ] at hs
 obtain ⟨h1,h2⟩ :=hs
 simp only [WQ,ji2,decide_eq_true_eq] at h
 obtain ⟨a1,a2⟩ :=a;obtain ⟨b1,b2⟩ :=b;obtain ⟨c1,c2⟩ :=c;obtain ⟨d1,d2⟩ :=d
 simp only [tn] at h1 h2
 simp only at h
 have ex: (Kw c1 c2 d1 d2 b1 b2*a1- Kw c1 c2 d1 d2 a1 a2*b1) * (Kw a1 a2 b1 b2 d1 d2- Kw a1 a2 b1 b2 c1 c2) = (Kw a1 a2 b1 b2 d1 d2*c1- Kw a1 a2 b1 b2 c1 c2*d1) * (Kw c1 c2 d1 d2 b1 b2- Kw c1 c2 d1 d2 a1 a2) :=by
  simp only [Kw];grind
 have ey: (Kw c1 c2 d1 d2 b1 b2*a2- Kw c1 c2 d1 d2 a1 a2*b2) * (Kw a1 a2 b1 b2 d1 d2- Kw a1 a2 b1 b2 c1 c2) = (Kw a1 a2 b1 b2 d1 d2*c2- Kw a1 a2 b1 b2 c1 c2*d2) * (Kw c1 c2 d1 d2 b1 b2- Kw c1 c2 d1 d2 a1 a2) :=by
  simp only [Kw];grind
 rcases h with((h | h) | h) | h
 ·exact Zp (m:=min c1 d1) h1 h2 ex Om
 ·exact Zp (m:=min a1 b1) h2 h1 ex.symm Om
 ·exact Zp (m:=min c2 d2) h1 h2 ey Om
 ·exact Zp (m:=min a2 b2) h2 h1 ey.symm Om
def XK (a b c d:Pn) :Bool:=
 if WQ a b c d=true then true
 else if kz a b c d=2 then false
 else if kz a b c d=1 then !(decide (a≠c) &&decide (a≠d) &&decide (b≠c) &&decide (b≠d))
 else if kz a b c d=3 then decide ((a=c∧b=d)∨(a=d∧b=c))
 else true
abbrev pV (p:Pn) :Value:= .agg #[.int .i64 p.1, .int .i64 p.2]
theorem vP {p:Pn} (h:bd2 p) :YY p.1∧YY p.2:=by
 obtain ⟨⟨h1,h2⟩,h3,h4⟩ :=h
 exact⟨⟨by omega,by omega⟩,by omega,by omega⟩
theorem Hm (a b c:Pn) (w:World) (ha:bd2 a) (hb:bd2 b) (hc:bd2 c) :Calls Tryz.prog 161 #[pV a,pV b,pV c] w fun e w'=>e= .returned (.int .i64 (tn a b c))∧Over w w':=by
 obtain ⟨a1,a2⟩ :=vP ha;obtain ⟨b1,b2⟩ :=vP hb;obtain ⟨c1,c2⟩ :=vP hc
 exact Zg a.1 a.2 b.1 b.2 c.1 c.2 w a1.1 a1.2 a2.1 a2.2 b1.1 b1.2 b2.1 b2.2 c1.1 c1.2 c2.1 c2.2
theorem L0 (a b c:Pn) (w:World) (ha:bd2 a) (hb:bd2 b) (hc:bd2 c) :Calls Tryz.prog 165 #[pV a,pV b,pV c] w fun e w'=>e= .returned (.bool (UZ a b c))∧Over w w':=by
 obtain ⟨a1,a2⟩ :=vP ha;obtain ⟨b1,b2⟩ :=vP hb;obtain ⟨c1,c2⟩ :=vP hc
 exact Dk a.1 a.2 b.1 b.2 c.1 c.2 w a1 a2 b1 b2 c1 c2
theorem zf (a b:Pn) (w:World) (ha:bd2 a) (hb:bd2 b) :Calls Tryz.prog 164 #[pV a,pV b] w fun e w'=>e= .returned (.int .i64 (xX a b))∧Over w w':=by
 obtain ⟨⟨a1,a2⟩,a3,a4⟩ :=ha;obtain ⟨⟨b1,b2⟩,b3,b4⟩ :=hb
 refine jK (m:=22) (Tryz.func164) J J (lb J) ?_;refine S3 ?_;refine aX (fun b1=> ?_);refine N1 ?_;refine aX (fun b2=> ?_);refine N11 ?_;refine cZ (fun c1=> ?_) (fun c1=> ?_)
 ·refine S7 ?_;refine a9 (jG Q3 J J (fun w h=>Calls.still (Ku _ w))) ?_;refine S4 ?_;refine jJ J (.tmp J) ?_
  intro w' hs
  exact⟨ux (by simp [xX,c1]),hs.fin⟩
 ·refine S9 ?_;refine a9 (jG Q3 J J (fun w h=>Calls.still (Ku _ w))) ?_;refine S3 ?_;refine jJ J (.tmp J) ?_
  intro w' hs
  exact⟨ux (by simp [xX,c1]),hs.fin⟩
theorem xj (a b:Pn) (w:World) (ha:bd2 a) (hb:bd2 b) :Calls Tryz.prog 163 #[pV a,pV b] w fun e w'=>e= .returned (pV (Xj a b))∧Over w w':=by
 refine jK (m:=11) (Tryz.func163) J J (lb J) ?_;refine S3 ?_;refine aX (fun b1=> ?_);refine N1 ?_;refine aX (fun b2=> ?_);refine N1 ?_;refine aL (fun b3=> ?_);refine N6 ?_;refine a9 (jG Wk J J (fun w h=>zf a b w ha hb)) ?_;refine S2 ?_;refine cZ (fun c1=> ?_) (fun c1=> ?_)
 ·refine S8 ?_;refine jJ J (JZ (k:=2) J jj J J) ?_
  intro w' hs
  exact⟨by rw [Xj,if_pos c1],hs.fin⟩
 ·refine S9 ?_;refine jJ J (JZ (k:=2) J jj J J) ?_
  intro w' hs
  exact⟨by rw [Xj,if_neg Om],hs.fin⟩
theorem zn (a b:Pn) (w:World) (ha:bd2 a) (hb:bd2 b) :Calls Tryz.prog 162 #[pV a,pV b] w fun e w'=>e= .returned (pV (x8 a b))∧Over w w':=by
 refine jK (m:=11) (Tryz.func162) J J (lb J) ?_;refine S3 ?_;refine aX (fun b1=> ?_);refine N1 ?_;refine aX (fun b2=> ?_);refine N1 ?_;refine aL (fun b3=> ?_);refine N6 ?_;refine a9 (jG Wk J J (fun w h=>zf a b w ha hb)) ?_;refine S2 ?_;refine cZ (fun c1=> ?_) (fun c1=> ?_)
 ·refine S8 ?_;refine jJ J (JZ (k:=2) J jj J J) ?_
  intro w' hs
  exact⟨by rw [x8,if_pos c1],hs.fin⟩
 ·refine S9 ?_;refine jJ J (JZ (k:=2) J jj J J) ?_
  intro w' hs
  exact⟨by rw [x8,if_neg Om],hs.fin⟩
theorem jg5 (n:Int) : -1≤Wv n∧Wv n≤1:=by have:=uz n;omega
theorem Yg (m n:Int) : -1≤Wv m*Wv n∧Wv m*Wv n≤1:=by
 rcases uz m with⟨_,e1⟩ |⟨_,e1⟩ |⟨_,e1⟩ <;>rcases uz n with⟨_,e2⟩ |⟨_,e2⟩ |⟨_,e2⟩ <;>rw [e1,e2] <;>omega
abbrev mtV (r:Int×Pn) :Value:= .tuple #[.int .i64 r.1,pV r.2]
theorem Xn (k:Int) (p:Pn) {r:Int×Pn} (h:r= (k,p)) :Ending.returned (.tuple #[.int .i64 k,pV p]) =Ending.returned (mtV r) :=by rw [h]
theorem Th (a b c d:Pn) (w:World) (ha:bd2 a) (hb:bd2 b) (hc:bd2 c) (hd:bd2 d) :Calls Tryz.prog 109 #[pV a,pV b,pV c,pV d] w fun e w'=>e= .returned (mtV (UF a b c d))∧Over w w':=by
 have m1:=Yg (tn a b c) (tn a b d)
 have m2:=Yg (tn c d a) (tn c d b)
 have l1:= (yi ha hb).2.1
 have l2:= (yi hc hd).2.1
 have g1:= (yg ha hb).2.1
 have g2:= (yg hc hd).2.1
 refine jK (m:=110) (Tryz.func109) J J (lb J) ?_;refine S3 ?_;refine aX (fun b1=> ?_);refine N1 ?_;refine aX (fun b2=> ?_);refine N1 ?_;refine aX (fun b3=> ?_);refine N1 ?_;refine aX (fun b4=> ?_);refine N2 ?_;refine aL (fun b5=> ?_);refine N3 ?_;refine JH 24 ?_;refine dK 0 ?_;refine dK 1 ?_;refine dK 2 ?_;refine dZ 3 J (jG kZ J J (fun w h=>Hm _ _ _ w (by assumption) (by assumption) (by assumption))) ?_;refine dZ 4 J (jG Q3 J J (fun w h=>Calls.still (Ku _ w))) ?_;refine dK 5 ?_;refine dK 6 ?_;refine dK 7 ?_;refine dZ 8 J (jG kZ J J (fun w h=>Hm _ _ _ w (by assumption) (by assumption) (by assumption))) ?_;refine dZ 9 J (jG Q3 J J (fun w h=>Calls.still (Ku _ w))) ?_;refine dK 10 ?_;refine dK 11 ?_;refine dK 12 ?_;refine dZ 13 J (jG kZ J J (fun w h=>Hm _ _ _ w (by assumption) (by assumption) (by assumption))) ?_;refine dZ 14 J (jG Q3 J J (fun w h=>Calls.still (Ku _ w))) ?_;refine dK 15 ?_;refine dK 16 ?_;refine dK 17 ?_;refine dZ 18 J (jG kZ J J (fun w h=>Hm _ _ _ w (by assumption) (by assumption) (by assumption))) ?_;refine dZ 19 J (jG Q3 J J (fun w h=>Calls.still (Ku _ w))) ?_;refine dK 20 ?_;refine dK 21 ?_;refine dK 22 ?_;refine dK 23 ?_;refine JB Kr ?_;refine S2 ?_;refine qr [(49, .bool (x6 a b c d))] (kK [4,5,6,7,8,9,10,11,12,13]) (fun L h_2=> ?_) ?_
 ·refine S4 ?_;refine cV 38 (fun g1=> ?_) (fun g1=> ?_)
  ·refine S6 ?_;refine cV 42 (fun g2=> ?_) (fun g2=> ?_)
   ·refine S6 ?_;refine cV 46 (fun g3=> ?_) (fun g3=> ?_)
    ·refine S6 ?_
     exact Js h_2 ⟨vb (by simp [x6, *]),sz⟩ (u9 J)
    ·refine S4 ?_
     exact Js h_2 ⟨vb (by simp [x6, *]),sz⟩ (u9 J)
   ·refine S8 ?_
    exact Js h_2 ⟨vb (by simp [x6, *]),sz⟩ (u9 J)
  ·refine S12 ?_
   exact Js h_2 ⟨vb (by simp [x6, *]),sz⟩ (u9 J)
 ·refine v9 ?_;refine cZ (fun c1=> ?_) (fun c1=> ?_)
  ·refine S2 ?_;refine JH 9 ?_;refine dK 0 ?_;refine dK 1 ?_;refine dZ 2 J (jG WY J J (fun w h=>xj _ _ w ha hb)) ?_;refine dK 3 ?_;refine dK 4 ?_;refine dZ 5 J (jG WY J J (fun w h=>xj _ _ w hc hd)) ?_;refine dZ 6 J (jG Wm J J (fun w h=>zn _ _ w l1 l2)) ?_;refine qd (i:=7) J Dc Kr J ?_;refine aL (fun b6=> ?_);refine n9 ?_;refine JU (u9 J) ?_;refine qd (i:=8) J Dc Kr J ?_;refine S1 ?_;refine JU (u9 J) ?_;refine JB Kr ?_;refine S3 ?_;refine JH 9 ?_;refine dK 0 ?_;refine dK 1 ?_;refine dZ 2 J (jG Wm J J (fun w h=>zn _ _ w ha hb)) ?_;refine dK 3 ?_;refine dK 4 ?_;refine dZ 5 J (jG Wm J J (fun w h=>zn _ _ w hc hd)) ?_;refine dZ 6 J (jG WY J J (fun w h=>xj _ _ w g1 g2)) ?_;refine qd (i:=7) J Dc Kr J ?_;refine aL (fun b7=> ?_);refine n9 ?_;refine JU (u9 J) ?_;refine qd (i:=8) J Dc Kr J ?_;refine S1 ?_;refine JU (u9 J) ?_;refine JB Kr ?_;refine S6 ?_;refine a9 (jG Wk J J (fun w h=>zf _ _ w (yg l1 l2).2.1 (yi g1 g2).2.1)) ?_;refine S7 ?_;refine cZ (fun c2=> ?_) (fun c2=> ?_)
   ·refine S2 ?_;refine Q0 3 [4] ?_;refine dK 0 ?_;refine dK 1 ?_;refine qd (i:=2) J Dc Kr J ?_;refine S1 ?_;refine JU (uw [4] J) ?_;refine JB Kr ?_;refine S5 ?_;refine JX J (.tmp J) (JZ (k:=4) J jj J J) ?_
    intro w' hs
    exact⟨Xn 1 (UX a b c d) (by rw [UF,if_pos c1,if_pos (show xX (UX a b c d) (uI a b c d) =0 from c2)]),hs.fin⟩
   ·refine S5 ?_;refine cZ (fun c3=> ?_) (fun c3=> ?_)
    ·refine S2 ?_;refine Q0 3 [4] ?_;refine dK 0 ?_;refine dK 1 ?_;refine qd (i:=2) J Dc Kr J ?_;refine S1 ?_;refine JU (uw [4] J) ?_;refine JB Kr ?_;refine S5 ?_;refine JX J (.tmp J) (JZ (k:=4) J jj J J) ?_
     intro w' hs
     exact⟨Xn 3 (UX a b c d) (by rw [UF,if_pos c1,if_neg (show¬xX (UX a b c d) (uI a b c d) =0 from c2),if_pos (show xX (UX a b c d) (uI a b c d) = -1 from c3)]),hs.fin⟩
    ·refine S5 ?_;refine a9 (JF J J (yR)) ?_;refine S6 ?_;refine JX J (.tmp J) (JZ (k:=4) J jj J J) ?_
     intro w' hs
     exact⟨Xn 0 (0,0) (by rw [UF,if_pos c1,if_neg (show¬xX (UX a b c d) (uI a b c d) =0 from c2),if_neg (show¬xX (UX a b c d) (uI a b c d) = -1 from c3)]),hs.fin⟩
  ·refine S3 ?_;refine qr [(83, .bool (Qc a b c d))] (kK [4,5,6,7,8,9]) (fun L h_11=> ?_) ?_
   ·refine S6 ?_;refine cV 78 (fun g4=> ?_) (fun g4=> ?_)
    ·refine S10 ?_
     exact Js h_11 ⟨vb (by simp [Qc, *] <;>omega),sz⟩ (u9 J)
    ·refine S6 ?_
     exact Js h_11 ⟨vb (by simp [Qc, *] <;>omega),sz⟩ (u9 J)
   ·refine v9 ?_;refine cZ (fun c4=> ?_) (fun c4=> ?_)
    ·refine S2 ?_;refine a9 (JF J J (yR)) ?_;refine S6 ?_;refine JX J (.tmp J) (JZ (k:=4) J jj J J) ?_
     intro w' hs
     exact⟨Xn 2 (0,0) (by rw [UF,if_neg (by simp [c1]),if_pos c4]),hs.fin⟩
    ·refine S9 ?_;refine a9 (jG Ve J J (fun w h=>L0 _ _ _ w (by assumption) (by assumption) (by assumption))) ?_;refine S2 ?_;refine cZ (fun c5=> ?_) (fun c5=> ?_)
     ·refine S2 ?_;refine Q0 3 [4] ?_;refine dK 0 ?_;refine dK 1 ?_;refine qd (i:=2) J Dc Kr J ?_;refine S1 ?_;refine JU (uw [4] J) ?_;refine JB Kr ?_;refine S4 ?_;refine JX J (.tmp J) (JZ (k:=4) J jj J J) ?_
      intro w' hs
      exact⟨Xn 1 c (by rw [UF,if_neg (by simp [c1]),if_neg (by simp [c4]),if_pos c5]),hs.fin⟩
     ·refine S5 ?_;refine a9 (jG Ve J J (fun w h=>L0 _ _ _ w (by assumption) (by assumption) (by assumption))) ?_;refine S2 ?_;refine cZ (fun c6=> ?_) (fun c6=> ?_)
      ·refine S2 ?_;refine Q0 3 [4] ?_;refine dK 0 ?_;refine dK 1 ?_;refine qd (i:=2) J Dc Kr J ?_;refine S1 ?_;refine JU (uw [4] J) ?_;refine JB Kr ?_;refine S4 ?_;refine JX J (.tmp J) (JZ (k:=4) J jj J J) ?_
       intro w' hs
       exact⟨Xn 1 d (by rw [UF,if_neg (by simp [c1]),if_neg (by simp [c4]),if_neg (by simp [c5]),if_pos c6]),hs.fin⟩
      ·refine S5 ?_;refine a9 (jG Ve J J (fun w h=>L0 _ _ _ w (by assumption) (by assumption) (by assumption))) ?_;refine S2 ?_;refine cZ (fun c7=> ?_) (fun c7=> ?_)
       ·refine S2 ?_;refine Q0 3 [4] ?_;refine dK 0 ?_;refine dK 1 ?_;refine qd (i:=2) J Dc Kr J ?_;refine S1 ?_;refine JU (uw [4] J) ?_;refine JB Kr ?_;refine S4 ?_;refine JX J (.tmp J) (JZ (k:=4) J jj J J) ?_
        intro w' hs
        exact⟨Xn 1 a (by rw [UF,if_neg (by simp [c1]),if_neg (by simp [c4]),if_neg (by simp [c5]),if_neg (by simp [c6]),if_pos c7]),hs.fin⟩
       ·refine S5 ?_;refine a9 (jG Ve J J (fun w h=>L0 _ _ _ w (by assumption) (by assumption) (by assumption))) ?_;refine S2 ?_;refine cZ (fun c8=> ?_) (fun c8=> ?_)
        ·refine S2 ?_;refine Q0 3 [4] ?_;refine dK 0 ?_;refine dK 1 ?_;refine qd (i:=2) J Dc Kr J ?_;refine S1 ?_;refine JU (uw [4] J) ?_;refine JB Kr ?_;refine S4 ?_;refine JX J (.tmp J) (JZ (k:=4) J jj J J) ?_
         intro w' hs
         exact⟨Xn 1 b (by rw [UF,if_neg (by simp [c1]),if_neg (by simp [c4]),if_neg (by simp [c5]),if_neg (by simp [c6]),if_neg (by simp [c7]),if_pos c8]),hs.fin⟩
        ·refine S5 ?_;refine a9 (JF J J (yR)) ?_;refine S5 ?_;refine JX J (.tmp J) (JZ (k:=4) J jj J J) ?_
         intro w' hs
         exact⟨Xn 0 (0,0) (by rw [UF,if_neg (by simp [c1]),if_neg (by simp [c4]),if_neg (by simp [c5]),if_neg (by simp [c6]),if_neg (by simp [c7]),if_neg (by simp [c8])]),hs.fin⟩
end Go.Proofs.YtbahojdbmmjkcaaGreat
