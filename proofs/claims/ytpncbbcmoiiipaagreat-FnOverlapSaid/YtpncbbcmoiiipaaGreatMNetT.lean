import Derived.Test.YtpncbbcmoiiipaaGreatMNetI
import Derived.Test.YtpncbbcmoiiipaaGreatMNetQ
import Derived.Test.YtpncbbcmoiiipaaGreatMStabP
set_option linter.unusedVariables false
set_option linter.unusedSimpArgs false
namespace Go.Proofs.YtpncbbcmoiiipaaGreat
open Go Go.RowKit
set_option maxRecDepth 100000
set_option maxHeartbeats 4000000
theorem jhQ (p q:Pn) (w:World) (hp:bd2 p) (hq:bd2 q) :Calls Tryz.prog 240 #[pV p,pV q] w fun e w'=>e= .returned (pV (p.1+q.1,p.2+q.2))∧Over w w':=by
 obtain ⟨⟨a1,a2⟩,a3,a4⟩ :=hp;obtain ⟨⟨b1,b2⟩,b3,b4⟩ :=hq
 refine Jh (m:=16) (Tryz.func240) J J (lb J) ?_;refine S3 ?_;refine aX (fun b1=> ?_);refine N1 ?_;refine aX (fun b2=> ?_);refine N1 ?_;refine aL (fun b3=> ?_);refine N13 ?_;refine a9 (JU J J (q8 J J)) ?_;refine S4 ?_;refine jM J (qh (k:=2) J jj J J) ?_
 intro w' hs
 exact⟨rfl,hs.fin⟩
theorem C2 (p:Pn) (w:World) (hp:bd2 p) :Calls Tryz.prog 242 #[pV p, .int .i64 2] w fun e w'=>e= .returned (pV (2*p.1,2*p.2))∧Over w w':=by
 obtain ⟨⟨a1,a2⟩,a3,a4⟩ :=hp
 refine Jh (m:=14) (Tryz.func242) J J (lb J) ?_;refine S3 ?_;refine aX (fun b1=> ?_);refine N1 ?_;refine aL (fun b2=> ?_);refine N11 ?_;refine a9 (JU J J (q8 J J)) ?_;refine S4 ?_;refine jM J (qh (k:=1) J jj J J) ?_
 intro w' hs
 exact⟨by rw [jiV p.1,jiV p.2],hs.fin⟩
theorem jda (p:Pn) (w:World) (hp:uB p.1∧uB p.2) :Calls Tryz.prog 241 #[pV p] w fun e w'=>e= .returned (pV (-p.2,p.1))∧Over w w':=by
 obtain ⟨⟨a1,a2⟩,a3,a4⟩ :=hp
 refine Jh (m:=9) (Tryz.func241) J J (lb J) ?_;refine S3 ?_;refine aX (fun b1=> ?_);refine N1 ?_;refine aL (fun b2=> ?_);refine N5 ?_;refine a9 (YD J J Om Om) ?_;refine S2 ?_;refine a9 (JU J J (q8 J J)) ?_;refine S4 ?_;refine jM J (qh (k:=1) J jj J J) ?_
 intro w' hs
 exact⟨rfl,hs.fin⟩
def Le (p:Leg) :Pn:=if p.ay=p.b_y then(-(KU p),vC p) else(vC p,KU p)
def Bx (p q:Leg) :Leg:=if p.ay=p.b_y then ZW (Q2 true q) else Q2 true q
theorem TN (p q:Leg) :BD p q=Qw (Bx p q) (Le p).1 (Le p).2:=by
 unfold BD Bx Le
 split<;>rfl
theorem jgF {p:Leg} (h:qN p) :uB (Le p).1∧uB (Le p).2:=by
 obtain ⟨⟨a1,a2⟩,⟨a3,a4⟩,⟨b1,b2⟩,b3,b4⟩ :=h
 unfold Le vC KU
 split
 ·refine⟨⟨?_,?_⟩,?_,?_⟩ <;> (simp only;omega)
 ·refine⟨⟨?_,?_⟩,?_,?_⟩ <;> (simp only;omega)
theorem jgz {p q:Leg} (h:qN q) :uB (Bx p q).ax∧uB (Bx p q).ay∧uB (Bx p q).bx∧uB (Bx p q).b_y:=by
 obtain ⟨h1,h2,h3,h4⟩ :=PE true h
 unfold Bx ZW uB at*
 split
 ·simp only;omega
 ·exact⟨h1,h2,h3,h4⟩
theorem jfP {l:Leg} (h:qN l) :bd2 (lA l)∧bd2 (lB l) :=⟨⟨h.1,h.2.1⟩,h.2.2.1,h.2.2.2⟩
theorem Rq {s:Bool} {l:List Nt} {k:Nat} :QE s l k (k+1) =QE s l k k:=by simp [QE]
theorem ja3 {s:Bool} {l:List Nt} {k i:Nat} (h:i≠k) (hu:Fq (Bx (nt l k).e (nt l i).e) (Le (nt l k).e).1 (Le (nt l k).e).2=true) :QE s l k i+VP s (nt l i) =QE s l k (i+1) :=by
 rw [QE,if_neg h,TN,Qw,if_pos hu,jjM]
theorem Rp {s:Bool} {l:List Nt} {k i:Nat} (h:i≠k) (hu:Fq (Bx (nt l k).e (nt l i).e) (Le (nt l k).e).1 (Le (nt l k).e).2=false) (hd:ud (Bx (nt l k).e (nt l i).e) (Le (nt l k).e).1 (Le (nt l k).e).2=true) :QE s l k i- VP s (nt l i) =QE s l k (i+1) :=by
 rw [QE,if_neg h,TN,Qw,hu,if_neg (by simp),if_pos hd,Int.mul_neg,jjM]
 omega
theorem Rr {s:Bool} {l:List Nt} {k i:Nat} (h:i≠k) (hu:Fq (Bx (nt l k).e (nt l i).e) (Le (nt l k).e).1 (Le (nt l k).e).2=false) (hd:ud (Bx (nt l k).e (nt l i).e) (Le (nt l k).e).1 (Le (nt l k).e).2=false) :QE s l k i=QE s l k (i+1) :=by
 rw [QE,if_neg h,TN,Qw,hu,if_neg (by simp),hd,if_neg (by simp),jjP,jj0]
theorem BO (l:List Nt) (x:Option Addr×Nat) (k:Nat) (w:World) (hr: (I5 l x).P w) (hk:k<l.length) (hok:∀y∈l,qN y.e) (hl:l.length≤16384) (ha:∀t,aS t l≤16384) :
  Calls Tryz.prog 188 #[.slice x.1 l.length x.2, .int .i64 (k:Int)] w fun e w'=>e= .returned (.tuple #[.int .i64 (QE false l k l.length), .int .i64 (QE true l k l.length)])∧Over w w':=by
 have hpo:=hok _ (GZ hk)
 obtain ⟨m1,m2⟩ :=jgF hpo
 obtain ⟨⟨a1,a2⟩,⟨a3,a4⟩,⟨b1',b2'⟩,b3',b4'⟩ :=id hpo
 obtain ⟨hp1,hp2⟩ :=jfP hpo
 obtain ⟨p,hp⟩ :∃p,p= (nt l k).e:=⟨_,rfl⟩
 refine Jh (m:=132) (Tryz.func188) J J (lb J) ?_;refine S9 ?_;refine a9 (qQ (j:=k) (fun w hs=>Qp hr hs.fin) J J J JH hk) ?_;refine S1 ?_;refine a9 (jk J J KQ J (Z5 [.int .i64 (nt l k).e.ax, .int .i64 (nt l k).e.ay, .int .i64 (nt l k).e.bx, .int .i64 (nt l k).e.b_y] 0 (fun w hs=>Qp hr hs.fin) hk Om (Me J J J J))) ?_;refine S1 ?_;refine aL (fun b1=> ?_);refine N20 ?_;refine a9 (jT Ot J J (fun w1 hs=>jhQ (lA (nt l k).e) (lB (nt l k).e) w1 hp1 hp2)) ?_;refine S1 ?_;refine aL (fun b2=> ?_);refine N3 ?_;refine uf [] ([.cel b1 120 [.int .i64 (nt l k).e.ax, .int .i64 (nt l k).e.ay, .int .i64 (nt l k).e.bx, .int .i64 (nt l k).e.b_y], .cel b2 56 [.int .i64 (Le (nt l k).e).1, .int .i64 (Le (nt l k).e).2]]) (kK [0,1,4,5,7,8]) (fun L h_t31=> ?_) ?_
 ·refine S4 ?_;refine cZ (fun c1=> ?_) (fun c1=> ?_)
  ·refine S2 ?_;refine a9 (jT WN J J (fun w1 hs=>jda (vC (nt l k).e,KU (nt l k).e) w1 ⟨⟨by unfold vC;simp only;omega,by unfold vC;simp only;omega⟩,by unfold KU;simp only;omega,by unfold KU;simp only;omega⟩)) ?_;refine S3 ?_
   exact Jk h_t31 ⟨J,sz⟩ (fun _ h=>h.upto ⟨J,by rw [Le,if_pos c1],trivial⟩)
  ·refine S2 ?_
   exact Jk h_t31 ⟨J,sz⟩ (fun _ h=>h.upto ⟨J,by rw [Le,if_neg c1];rfl,trivial⟩)
 ·refine V14 ?_;refine qz (X:=Nat) (fun i=>i≤l.length) (fun i=>l.length- i) (fun i=> [(9, .int .i64 (QE false l k i)),(10, .int .i64 (QE true l k i)),(11, .int .i64 (i:Int))]) (kK [0,1,4,5,7,8]) 0 (jii _) ⟨J,sz⟩ ?_
  intro i hi L hL1
  refine v9 ?_
  have hb1:=yC (s:=false) (k:=k) (show i≤l.length from hi)
  have hb2:=yC (s:=true) (k:=k) (show i≤l.length from hi)
  have ha1:=ha false
  have ha2:=ha true
  refine S8 ?_;refine cZ (fun c2=> ?_) (fun c2=> ?_)
  ·have hlt:i<l.length:=Om
   have hqo:=hok _ (GZ hlt)
   obtain ⟨q1,q2⟩ :=jfP hqo
   obtain ⟨d1,d2,d3,d4⟩ :=jgz (p:= (nt l k).e) hqo
   obtain ⟨⟨e1,e2⟩,⟨e3,e4⟩,⟨e5,e6⟩,e7,e8⟩ :=id hqo
   have hn1:=xj (s:=false) hlt
   have hn2:=xj (s:=true) hlt
   simp only [VP,if_true,jjg,if_false] at hn1 hn2
   refine S11 ?_;refine cZ (fun c3=> ?_) (fun c3=> ?_)
   ·refine S9 ?_
    exact qi hL1 (i+1) Om Om ⟨vi (by rw [show i=k by omega,Rq]),vi (by rw [show i=k by omega,Rq]),vi Om,sz⟩ (u9 J)
   ·have hik:i≠k:=Om
    refine S6 ?_;refine a9 (qQ (j:=i) (fun w hs=>Qp hr hs.fin) J J J JH hlt) ?_;refine S2 ?_;refine a9 (jk J J jj J (Z5 [.int .i64 (nt l i).e.ax, .int .i64 (nt l i).e.ay] 0 (fun w hs=>Qp hr hs.fin) hlt Om (xS J J))) ?_;refine a9 (jT yT J J (fun w1 hs=>C2 (lA (nt l i).e) w1 q1)) ?_;refine S1 ?_;refine aL (fun b3=> ?_);refine N7 ?_;refine a9 (qQ (j:=i) (fun w hs=>Qp hr hs.fin) J J J JH hlt) ?_;refine S2 ?_;refine a9 (jk J J jj J (Z5 [.int .i64 (nt l i).e.bx, .int .i64 (nt l i).e.b_y] 2 (fun w hs=>Qp hr hs.fin) hlt Om (xS J J))) ?_;refine a9 (jT yT J J (fun w1 hs=>C2 (lB (nt l i).e) w1 q2)) ?_;refine S1 ?_;refine aL (fun b4=> ?_);refine N3 ?_;refine uf [] ([.cel b1 120 [.int .i64 (nt l k).e.ax, .int .i64 (nt l k).e.ay, .int .i64 (nt l k).e.bx, .int .i64 (nt l k).e.b_y], .cel b2 56 [.int .i64 (Le (nt l k).e).1, .int .i64 (Le (nt l k).e).2], .cel b3 56 [.int .i64 (Bx (nt l k).e (nt l i).e).ax, .int .i64 (Bx (nt l k).e (nt l i).e).ay], .cel b4 56 [.int .i64 (Bx (nt l k).e (nt l i).e).bx, .int .i64 (Bx (nt l k).e (nt l i).e).b_y]]) (kK [0,1,4,5,7,8,9,10,11,34,35,36,37,40,41,42,43,44,45,46,47,48,49,12,50,51,52,53,54,55,56,13]) (fun L h_t57=> ?_) ?_
    ·refine S4 ?_;refine cZ (fun c4=> ?_) (fun c4=> ?_)
     ·refine S3 ?_;refine a9 (jT WN J J (fun w1 hs=>jda (2* (nt l i).e.ax,2* (nt l i).e.ay) w1 ⟨⟨by simp only;omega,by simp only;omega⟩,by simp only;omega,by simp only;omega⟩)) ?_;refine S5 ?_;refine a9 (jT WN J J (fun w1 hs=>jda (2* (nt l i).e.bx,2* (nt l i).e.b_y) w1 ⟨⟨by simp only;omega,by simp only;omega⟩,by simp only;omega,by simp only;omega⟩)) ?_;refine S3 ?_
      exact Jk h_t57 ⟨J,sz⟩ (fun _ h=>h.upto ⟨J,J,by rw [Bx,if_pos c4];rfl,by rw [Bx,if_pos c4];rfl,trivial⟩)
     ·refine S2 ?_
      exact Jk h_t57 ⟨J,sz⟩ (fun _ h=>h.upto ⟨J,J,by rw [Bx,if_neg c4];rfl,by rw [Bx,if_neg c4];rfl,trivial⟩)
    ·refine V1 ?_;refine qt [(62, .bool (Fq (Bx (nt l k).e (nt l i).e) (Le (nt l k).e).1 (Le (nt l k).e).2))] (kK [0,1,4,5,7,8,9,10,11,34,35,36,37,40,41,42,43,44,45,46,47,48,49,12,50,51,52,53,54,55,56,13]) (fun L h_17=> ?_) ?_
     ·refine S7 ?_;refine cV 68 (fun g1=> ?_) (fun g1=> ?_)
      ·refine S12 ?_;refine cV 75 (fun g2=> ?_) (fun g2=> ?_)
       ·refine S7 ?_;refine o9 (jT Qj J J (fun w h=>Wq _ _ _ _ _ _ w d1.1 d1.2 d2.1 d2.2 d3.1 d3.2 d4.1 d4.2 m1.1 m1.2 m2.1 m2.2)) ?_;refine S5 ?_
        exact Jk h_17 ⟨vb (by simp [Fq, *]),sz⟩ (u9 J)
       ·refine S8 ?_
        exact Jk h_17 ⟨vb (by symm;simp [Fq];omega),sz⟩ (u9 J)
      ·refine S15 ?_
       exact Jk h_17 ⟨vb (by symm;simp [Fq];omega),sz⟩ (u9 J)
     ·refine v9 ?_;refine cZ (fun c5=> ?_) (fun c5=> ?_)
      ·refine S5 ?_;refine a9 (qQ (j:=i) (fun w hs=>Qp hr hs.fin) J J J JH hlt) ?_;refine S1 ?_;refine a9 (jn J J jt (xJ (i:=4) (fun w hs=>Qp hr hs.fin) hlt Om J)) ?_;refine S7 ?_;refine a9 (qQ (j:=i) (fun w hs=>Qp hr hs.fin) J J J JH hlt) ?_;refine S1 ?_;refine a9 (jn J J jt (xJ (i:=5) (fun w hs=>Qp hr hs.fin) hlt Om J)) ?_;refine S11 ?_
       exact qi hL1 (i+1) Om Om ⟨vi (ja3 (s:=false) hik c5),vi (ja3 (s:=true) hik c5),vi Om,sz⟩ (u9 J)
      ·refine qt [(96, .bool (ud (Bx (nt l k).e (nt l i).e) (Le (nt l k).e).1 (Le (nt l k).e).2))] (kK [0,1,4,5,7,8,9,10,11,34,35,36,37,40,41,42,43,44,45,46,47,48,49,12,50,51,52,53,54,55,56,13,62]) (fun L h_20=> ?_) ?_
       ·refine S7 ?_;refine cV 102 (fun g3=> ?_) (fun g3=> ?_)
        ·refine S12 ?_;refine cV 109 (fun g4=> ?_) (fun g4=> ?_)
         ·refine S7 ?_;refine o9 (jT Qj J J (fun w h=>Wq _ _ _ _ _ _ w d1.1 d1.2 d2.1 d2.2 d3.1 d3.2 d4.1 d4.2 m1.1 m1.2 m2.1 m2.2)) ?_;refine S5 ?_
          exact Jk h_20 ⟨vb (by simp [ud, *]),sz⟩ (u9 J)
         ·refine S8 ?_
          exact Jk h_20 ⟨vb (by symm;simp [ud];omega),sz⟩ (u9 J)
        ·refine S15 ?_
         exact Jk h_20 ⟨vb (by symm;simp [ud];omega),sz⟩ (u9 J)
       ·refine v9 ?_;refine cZ (fun c6=> ?_) (fun c6=> ?_)
        ·refine S5 ?_;refine a9 (qQ (j:=i) (fun w hs=>Qp hr hs.fin) J J J JH hlt) ?_;refine S1 ?_;refine a9 (jn J J jt (xJ (i:=4) (fun w hs=>Qp hr hs.fin) hlt Om J)) ?_;refine S7 ?_;refine a9 (qQ (j:=i) (fun w hs=>Qp hr hs.fin) J J J JH hlt) ?_;refine S1 ?_;refine a9 (jn J J jt (xJ (i:=5) (fun w hs=>Qp hr hs.fin) hlt Om J)) ?_;refine S11 ?_
         exact qi hL1 (i+1) Om Om ⟨vi (Rp (s:=false) hik c5 c6),vi (Rp (s:=true) hik c5 c6),vi Om,sz⟩ (u9 J)
        ·refine S9 ?_
         exact qi hL1 (i+1) Om Om ⟨vi (Rr (s:=false) hik c5 c6),vi (Rr (s:=true) hik c5 c6),vi Om,sz⟩ (u9 J)
  ·have hin:i=l.length:=Om
   refine S13 ?_;refine qv J (.tmp J) (.tmp J) ?_
   intro w' hs
   exact⟨by rw [hin],hs.fin⟩
def sdN (l:List Nt) (k:Nat) :Nt:= {nt l k with l1:=QE false l k l.length+ (nt l k).one,l2:=QE true l k l.length+ (nt l k).two}
def ub (l:List Nt) (i:Nat) :List Nt:= (List.range l.length).map fun k=>if k<i then sdN l k else nt l k
theorem Ix (l:List Nt) (i:Nat) : (ub l i).length=l.length:=by simp [ub]
theorem NM {l:List Nt} {i k:Nat} (h:k<l.length) :nt (ub l i) k=if k<i then sdN l k else nt l k:=by
 simp [nt,ub,List.getD,List.getElem?_map,List.getElem?_range h]
theorem CN {l:List Nt} {i k:Nat} (h:k<l.length) : (nt (ub l i) k).e= (nt l k).e∧(∀s,VP s (nt (ub l i) k) =VP s (nt l k)) :=by
 rw [NM h]
 split
 ·exact⟨rfl,fun s=>by cases s<;>rfl⟩
 ·exact⟨rfl,fun s=>rfl⟩
theorem P5 (l:List Nt) :l= (List.range l.length).map (nt l) :=by
 refine jjz (by simp) fun k h1 h2=> ?_
 simp only [jjs,jjU]
 exact zw h1
theorem jdj (l:List Nt) :ub l 0=l:=by
 conv=>rhs;rw [P5 l]
 simp [ub]
theorem jdi {l:List Nt} {i:Nat} (h:i<l.length) :ub l (i+1) = (ub l i).set i (sdN l i) :=by
 refine jjz (by simp [ub]) fun k h1 h2=> ?_
 rw [List.getElem_set]
 simp only [ub,jjs,jjU]
 by_cases e:i=k
 ·subst e;rw [if_pos Om,if_pos rfl]
 ·rw [if_neg e]
  by_cases c:k<i
  ·rw [if_pos c,if_pos Om]
  ·rw [if_neg c,if_neg Om]
theorem VZ {α β:Type} (f:β→Int) (g:α→β) :∀l:List α,sm f (l.map g) =sm (fun x=>f (g x)) l
 | [] =>rfl
 | x::l=>by simp only [jiA,sm,VZ f g l]
theorem jhM (l:List Nt) (i:Nat) (t:Bool) :aS t (ub l i) =aS t l:=by
 have e:∀m:List Nt,aS t m=sm (fun k=>ZR (VP t (nt m k))) (List.range m.length) :=fun m=>by
  conv=>lhs;rw [P5 m]
  unfold aS
  rw [VZ]
 rw [e,e l,Ix]
 exact JW fun k hk=>by rw [(CN (jjo.1 hk)).2]
theorem Iw {l:List Nt} {i k:Nat} (hk:k<l.length) (s:Bool) :∀j,j≤l.length→QE s (ub l i) k j=QE s l k j
 | 0,_=>rfl
 | j+1,h=>by rw [QE,QE,Iw hk s j Om,(CN (show j<l.length by omega)).1,(CN (show j<l.length by omega)).2,(CN hk).1]
theorem jg6 {l:List Nt} {i:Nat} (h:∀y∈l,qN y.e) :∀y∈ub l i,qN y.e:=fun y hy=>by
 obtain ⟨k,hk,rfl⟩ :=jip.1 hy
 have hk:=jjo.1 hk
 split
 ·exact(show qN (nt l k).e from h _ (GZ hk))
 ·exact h _ (GZ hk)
def Uh (l:List Nt) :List Nt:=ub l l.length
theorem jhO {l:List Nt} {k:Nat} {e:Nt} (h:k<l.length) (he:nt l k=e) {v:Int} :qP (l.flatMap qq) (0+k*8+6) [.int .i64 v] = (l.set k {e with l1:=v}).flatMap qq:=by
 subst he
 exact UZ qq kE (Ih h) (jZ (nt l k).e++ [.int .i64 (nt l k).one, .int .i64 (nt l k).two]) [.int .i64 (nt l k).l1] [.int .i64 v] [.int .i64 (nt l k).l2] (by simp [qq]) (by simp [qq]) rfl (by simp [jZ])
theorem jhP {l:List Nt} {k:Nat} {e:Nt} (h:k<l.length) (he:nt l k=e) {v:Int} :qP (l.flatMap qq) (0+k*8+7) [.int .i64 v] = (l.set k {e with l2:=v}).flatMap qq:=by
 subst he
 exact UZ qq kE (Ih h) (jZ (nt l k).e++ [.int .i64 (nt l k).one, .int .i64 (nt l k).two, .int .i64 (nt l k).l1]) [.int .i64 (nt l k).l2] [.int .i64 v] [] (by simp [qq]) (by simp [qq]) rfl (by simp [jZ])
theorem jgN {l:List Nt} {k:Nat} {e:Nt} (h:k<l.length) :nt (l.set k e) k=e:=by simp [nt,List.getD,h]
theorem FW (l:List Nt) (x:Option Addr×Nat) (w:World) (hr: (I5 l x).P w) (hok:∀y∈l,qN y.e) (hl:l.length≤16384) (ha:∀t,aS t l≤16384) :
  Calls Tryz.prog 138 #[.slice x.1 l.length x.2] w fun e w'=>e= .returned (.tuple #[])∧Wrs (I5 l x).F w w'∧(JY 0 212 8 l.length ((Uh l).flatMap qq) x).P w':=by
 refine Vp (m:=39) (jag x) (I5 l x) (hr) (fun b hb=>Hm.1 hb) J (Tryz.func138) J J (lb J) ?_;refine S5 ?_;refine JQ (X:=Nat) (fun i=>i≤l.length) (fun i=>l.length- i) (fun i=> [(2, .int .i64 (i:Int))]) (kK [0]) (fun i=> [JY 0 212 8 l.length ((ub l i).flatMap qq) x]) 0 (jii _) ⟨J,sz⟩ (fun _ h=>by rw [jdj];exact h) ?_
 intro i hi L hL1
 refine v9 ?_;refine r9 ?_
 obtain ⟨M,hM⟩ :∃M,M=ub l i:=⟨_,rfl⟩
 have hMl:M.length=l.length:= (by rw [hM];exact Ix l i)
 have hMa:∀t,aS t M≤16384:= (fun t=>by rw [hM,jhM];exact ha t)
 have hMo:∀y∈M,qN y.e:= (by rw [hM];exact jg6 hok)
 rw [←hM]
 refine S8 ?_;refine cZ (fun c1=> ?_) (fun c1=> ?_)
 ·have hlt:i<l.length:=Om
  have hlM:i<M.length:=Om
  have hb1:QE false M i l.length=QE false l i l.length:= (by rw [hM];exact Iw hlt false _ (jih _))
  have hb2:QE true M i l.length=QE true l i l.length:= (by rw [hM];exact Iw hlt true _ (jih _))
  have hn:nt M i=nt l i:= (by rw [hM,NM hlt,if_neg Om])
  have hd1:=yC (s:=false) (k:=i) (jih l.length)
  have hd2:=yC (s:=true) (k:=i) (jih l.length)
  have hc1:=xj (s:=false) hlt
  have hc2:=xj (s:=true) hlt
  have ha1:=ha false
  have ha2:=ha true
  simp only [VP,if_true,jjg,if_false] at hc1 hc2
  refine S8 ?_;refine a9 (jT XT J J (fun w1 hs=>by have:=BO M x i w1 (by have:= (hs.all 0 _ J).1;rw [←hMl] at this;exact this) hlM hMo Om hMa;rw [hMl,hb1,hb2] at this;exact this)) ?_;refine S13 ?_;refine a9 (qQ (j:=i) (fun w hs=> (hs.all 0 _ J).1) J J J JH hlt) ?_;refine S1 ?_;refine a9 (jn J J jt (xJ (i:=4) (v:= .int .i64 (nt l i).one) (fun w hs=> (hs.all 0 _ J).1) hlM Om (by rw [hn];rfl))) ?_;refine S1 ?_;refine a9 (qQ (j:=i) (fun w hs=> (hs.all 0 _ J).1) J J J JH hlt) ?_;refine S2 ?_;refine Uw (k:=0) (vs:= [.int .i64 (QE false l i l.length+ (nt l i).one)]) J J J J (by rfl) (by rfl) kS.szx J J (by simp) (by rw [WG qq 8 kE];simp only [jim,jiH];omega) ?_;refine n9 ?_
  rw [jhO hlM hn]
  have hlM2:i< (M.set i {nt l i with l1:=QE false l i l.length+ (nt l i).one}).length:= (by rw [jjv];exact hlM)
  have hn2:=jgN (e:= {nt l i with l1:=QE false l i l.length+ (nt l i).one}) hlM
  refine S7 ?_;refine a9 (qQ (j:=i) (fun w hs=> (hs.all 0 _ J).1) J J J JH hlt) ?_;refine S1 ?_;refine a9 (jn J J jt (xJ (i:=5) (v:= .int .i64 (nt l i).two) (fun w hs=> (hs.all 0 _ J).1) hlM2 Om (by rw [hn2];rfl))) ?_;refine S1 ?_;refine a9 (qQ (j:=i) (fun w hs=> (hs.all 0 _ J).1) J J J JH hlt) ?_;refine S2 ?_;refine Uw (k:=0) (vs:= [.int .i64 (QE true l i l.length+ (nt l i).two)]) J J J J (by rfl) (by rfl) kS.szx J J (by simp) (by rw [WG qq 8 kE,jjv];simp only [jim,jiH];omega) ?_;refine n9 ?_
  rw [jhP hlM2 hn2,List.set_set]
  refine S8 ?_
  exact Ji hL1 (i+1) Om Om ⟨vi Om,sz⟩ (fun _ h=>h.upto ⟨by rw [jdi hlt,←hM];rfl,trivial⟩)
 ·have hin:i=l.length:=Om
  refine S4 ?_;refine kw J ?_
  intro w' hs
  exact⟨rfl,hs.over.wrs.mono fun b hb=>Hm.2 hb,by have:= (hs.all 0 _ rfl).1;rw [hM,hin] at this;exact this⟩
end Go.Proofs.YtpncbbcmoiiipaaGreat
namespace Go.Proofs.YtpncbbcmoiiipaaGreat
open Go Go.RowKit
section
variable {w0:Bs} {Rs:List Res}
theorem rdG {α:Type} {f:α→List Value} {m T B q:Nat} {l:List α} {r:Option Addr×Nat} {j off i:Nat} {a:α} {v:Value} (hf:∀a,(f a).length=m) (hr:∀w,St w0 Rs w→(JY B T m q (l.flatMap f) r).P w) (ha:l[j]? =some a) (he:off=j*m+i) (hv: (f a)[i]? =some v) :∀w,St w0 Rs w→w.cell? ⟨W3 r.1,off,none⟩ =some v:=fun w hs=>by
 refine X5 (hr w hs) ?_
 have hi:= (List.getElem?_eq_some_iff.1 hv).1
 obtain ⟨hj,e⟩ :=List.getElem?_eq_some_iff.1 ha
 rw [he,Xo f m hf l j i hj (by rw [hf] at hi;exact hi),e]
 exact hv
theorem jh4 {α:Type} {f:α→List Value} {m T B q:Nat} {l:List α} {r:Option Addr×Nat} {j off:Nat} {a:α} (vs:List Value) (i:Nat) (hf:∀a,(f a).length=m) (hr:∀w,St w0 Rs w→(JY B T m q (l.flatMap f) r).P w) (ha:l[j]? =some a) (he:off=j*m+i) (hv:∀q v,vs[q]? =some v→(f a)[i+q]? =some v) :∀w,St w0 Rs w→∀q v,vs[q]? =some v→w.cell? ⟨W3 r.1,off+q,none⟩ =some v:=fun w hs q v h=>
 rdG hf hr ha Om (hv q v h) w hs
end
theorem jeI {l:List Leg} {j:Nat} (h:j<l.length) :l[j]? =some (lg l j) :=by rw [List.getElem?_eq_getElem h,Uz h]
theorem jg3 (B T s:Nat) (w:World) : (JY B T s 0 [] (none,0)).P w:=World.ownsRow_nil _ _ _ _
theorem yJ {rs:List jV} (h:JE rs=true) :Fine (jE rs) :=⟨OP h,zt rs rs.length,fun f=>Cm f rs rs.length⟩
structure Key (es:List Leg) (p:Leg) :Prop where
 ok:qN p
 ne:lA p≠lB p
 ord:¬vh (lB p) (lA p)
theorem Sh {es:List Leg} : (KI es).length≤es.length:=by
 have:=ue (s:=false) es []
 rw [KI,jit]
 simpa using this
theorem Tm (l:List Nt) : (Uh l).length=l.length:=Ix l _
theorem CO {l:List Nt} {k:Nat} (h:k<l.length) :nt (Uh l) k=sdN l k:=by rw [Uh,NM h,if_pos h]
theorem jaO (t:Bool) :aS t [] =0:=rfl
theorem Yt {es:List Leg} (b1 o1:Nat) (A:Option Addr) (n c:Nat) (rs:List jV) (w:World) (hes:es=jE rs) (hcell:w.cell? ⟨b1,o1,none⟩ =some (.slice A n c)) (hb1:b1<w.heap.size) (h:Rings w A n rs) (ht: (total rs:Int)≤1048577) :
  Calls Tryz.prog 91 #[.pointer (some ⟨b1,o1,none⟩)] w fun e w'=>∃x:Option Addr×Nat,e= .returned (.slice x.1 es.length x.2)∧Over w w'∧(JY 0 120 4 es.length (es.flatMap jZ) x).P w'∧(∀b,(JY 0 120 4 es.length (es.flatMap jZ) x).F b→w.heap.size≤b)∧(JY 0 120 4 es.length (es.flatMap jZ) x).B=0∧True:=by
 subst hes
 exact Qh ((UG b1 o1 A n c rs w hcell hb1 h ht).mono fun e w' ⟨v,h1,_,h2,h3⟩ =>⟨v,h1,h2,h3⟩)
def yz (o a:Pn) :Int:=if a.2>o.2∨(a.2=o.2∧a.1>o.1) then 0 else 1
def ME (o a b:Pn) :Int:=if yz o a≠yz o b then wt (yz o a- yz o b) else-wt (tn o a b)
def Ga (v f p q:Pn) :Bool:=if decide (ME v p f<0)≠decide (ME v q f<0) then decide (ME v p f<0) else decide (0<ME v p q)
def cwH (o b p:Pn) :Int:=if tn o b p<0 then 0 else if tn o b p=0 then 1 else 2
def cwF (o b p q:Pn) :Bool:=if cwH o b p≠cwH o b q then decide (cwH o b p<cwH o b q) else decide (tn o p q<0)
def Uk (v p q:Pn) :Prop:=tn v p q=0∧0< (p.1- v.1) * (q.1- v.1) + (p.2- v.2) * (q.2- v.2)
theorem jaU (o a b:Pn) :ME o a b<0↔yz o a<yz o b∨(yz o a=yz o b∧0<tn o a b) :=by
 have h1:=u7 (yz o a- yz o b)
 have h2:=u7 (tn o a b)
 unfold ME
 split<;>omega
theorem xa (o a b:Pn) :0<ME o a b↔yz o b<yz o a∨(yz o a=yz o b∧tn o a b<0) :=by
 have h1:=u7 (yz o a- yz o b)
 have h2:=u7 (tn o a b)
 unfold ME
 split<;>omega
def BA (X:Pn) :Prop:=0<X.2∨(X.2=0∧0<X.1)
def zd (X Y:Pn) :Int:=X.1*Y.2- X.2*Y.1
theorem Ll {a b p:Int} (h:p=a*b) : (0<a∧0<b∧0<p)∨(0<a∧b<0∧p<0)∨(a<0∧0<b∧p<0)∨(a<0∧b<0∧0<p)∨(a=0∧p=0)∨(b=0∧p=0) :=ZK h
theorem Yd {X Y Z:Pn} (hX:BA X) (hY:BA Y) (hZ:BA Z) (h1:0≤zd X Y) (h2:0≤zd Y Z) :0≤zd X Z∧((0<zd X Y∨0<zd Y Z)→0<zd X Z) :=by
 have id1:Y.2*zd X Z=X.2*zd Y Z+Z.2*zd X Y:=by unfold zd;grind
 have e1:zd X Y=X.1*Y.2- X.2*Y.1:=rfl
 have e2:zd Y Z=Y.1*Z.2- Y.2*Z.1:=rfl
 have e3:zd X Z=X.1*Z.2- X.2*Z.1:=rfl
 have x0:0≤X.2:=by unfold BA at hX;omega
 have z0:0≤Z.2:=by unfold BA at hZ;omega
 by_cases hy:0<Y.2
 ·have b1:=Ll (a:=Y.2) (b:=zd X Z) rfl
  have b2:=jiF x0 h2
  have b3:=jiF z0 h1
  have hz:0<Z.2:=by
   refine Int.not_le.1 fun hz=> ?_
   have z1:Z.2=0:=by omega
   have z2:0<Z.1:=by unfold BA at hZ;omega
   have:=jiU hy z2
   rw [z1,jjP] at e2
   omega
  refine⟨by omega,fun h=> ?_⟩
  have c1:0<zd X Y∨0<X.2:=by
   by_cases hx:0<X.2
   ·exact .inr hx
   ·have x1:X.2=0:=by omega
    have x2:0<X.1:=by unfold BA at hX;omega
    have:=jiU x2 hy
    rw [x1,ji7] at e1
    exact .inl Om
  have c2:0<X.2*zd Y Z+Z.2*zd X Y:=by
   by_cases k:0<zd X Y
   ·have:=jiU hz k;omega
   ·have:=jiU (c1.resolve_left k) (h.resolve_left k);omega
  omega
 ·have y1:Y.2=0:=by unfold BA at hY;omega
  have y2:0<Y.1:=by unfold BA at hY;omega
  rw [y1,jjP] at e1
  rw [y1,ji7] at e2
  have m1:=Ll (a:=X.2) (b:=Y.1) rfl
  have x1:X.2=0:=by omega
  have x2:0<X.1:=by unfold BA at hX;omega
  rw [x1,ji7] at e3
  have m2:=Ll (a:=X.1) (b:=Z.2) rfl
  have m3:=Ll (a:=Y.1) (b:=Z.2) rfl
  rw [x1,ji7] at e1
  exact⟨by omega,fun h=>by omega⟩
theorem zL (X Y:Pn) :zd Y X= -zd X Y:=by unfold zd;grind
theorem Zq {v p:Pn} (h:p≠v) :∃X:Pn,BA X∧((yz v p=0∧X= (p.1- v.1,p.2- v.2))∨(yz v p=1∧X= (v.1- p.1,v.2- p.2))) :=by
 by_cases k:p.2>v.2∨(p.2=v.2∧p.1>v.1)
 ·refine⟨(p.1- v.1,p.2- v.2),?_, .inl ⟨if_pos k,J⟩⟩
  unfold BA
  simp only
  omega
 ·refine⟨(v.1- p.1,v.2- p.2),?_, .inr ⟨if_neg k,J⟩⟩
  have:¬(p.1=v.1∧p.2=v.2) :=fun e=>h (Prod.ext e.1 e.2)
  unfold BA
  simp only
  omega
theorem jfG {X Y:Pn} (hX:BA X) (hY:BA Y) (h:zd X Y=0) :0<X.1*Y.1+X.2*Y.2:=by
 have e1:zd X Y=X.1*Y.2- X.2*Y.1:=rfl
 have a1:=Ll (a:=X.1) (b:=Y.2) rfl
 have a2:=Ll (a:=X.2) (b:=Y.1) rfl
 have a3:=Ll (a:=X.1) (b:=Y.1) rfl
 have a4:=Ll (a:=X.2) (b:=Y.2) rfl
 unfold BA at hX hY
 generalize X.1*Y.2=p1 at*
 generalize X.2*Y.1=p2 at*
 generalize X.1*Y.1=p3 at*
 generalize X.2*Y.2=p4 at*
 omega
structure Tri (a b c:Int) :Prop where
 t1:0≤a→0≤c→0≤b∧((0<a∨0<c)→0<b)
 t2:0≤b→0≤-c→0≤a∧((0<b∨0< -c)→0<a)
 t3:0≤-a→0≤b→0≤c∧((0< -a∨0<b)→0<c)
 t4:0≤c→0≤-b→0≤-a∧((0<c∨0< -b)→0< -a)
 t5:0≤-b→0≤a→0≤-c∧((0< -b∨0<a)→0< -c)
 t6:0≤-c→0≤-a→0≤-b∧((0< -c∨0< -a)→0< -b)
theorem jdF {F P Q:Pn} (hF:BA F) (hP:BA P) (hQ:BA Q) :Tri (zd F P) (zd F Q) (zd P Q) :=by
 have f1:=zL F P
 have f2:=zL F Q
 have f3:=zL P Q
 have u1:=Yd hF hP hQ
 have u2:=Yd hF hQ hP
 have u3:=Yd hP hF hQ
 have u4:=Yd hP hQ hF
 have u5:=Yd hQ hF hP
 have u6:=Yd hQ hP hF
 rw [f3] at u2
 rw [f1] at u3
 rw [f1,f2] at u4
 rw [f2,f3] at u5
 rw [f1,f2,f3] at u6
 exact⟨u1,u2,u3,u4,u5,u6⟩
theorem jg9 (v p q:Pn) :tn v p q=zd (p.1- v.1,p.2- v.2) (q.1- v.1,q.2- v.2) :=by simp only [tn,Q8,zd]
theorem jby (a b c d e f:Int) :zd (a- b,c- d) (e,f) = -zd (b- a,d- c) (e,f) :=by unfold zd;grind
theorem jbz (a b c d e f:Int) :zd (e,f) (a- b,c- d) = -zd (e,f) (b- a,d- c) :=by unfold zd;grind
theorem uE {v p q X Y:Pn} (hX: (yz v p=0∧X= (p.1- v.1,p.2- v.2))∨(yz v p=1∧X= (v.1- p.1,v.2- p.2))) (hY: (yz v q=0∧Y= (q.1- v.1,q.2- v.2))∨(yz v q=1∧Y= (v.1- q.1,v.2- q.2))) :
  (yz v p=yz v q∧tn v p q=zd X Y)∨(yz v p≠yz v q∧tn v p q= -zd X Y) :=by
 rw [jg9]
 rcases hX with⟨h1,rfl⟩ |⟨h1,rfl⟩ <;>rcases hY with⟨h2,rfl⟩ |⟨h2,rfl⟩
 ·exact .inl ⟨by omega,rfl⟩
 ·exact .inr ⟨by omega,by rw [jbz]⟩
 ·exact .inr ⟨by omega,by rw [jby]⟩
 ·exact .inl ⟨by omega,by rw [jby,jbz];omega⟩
theorem XG {v p q X Y:Pn} (hX:BA X) (hY:BA Y) (h1: (yz v p=0∧X= (p.1- v.1,p.2- v.2))∨(yz v p=1∧X= (v.1- p.1,v.2- p.2))) (h2: (yz v q=0∧Y= (q.1- v.1,q.2- v.2))∨(yz v q=1∧Y= (v.1- q.1,v.2- q.2))) (h:¬Uk v p q) :¬(yz v p=yz v q∧zd X Y=0) :=fun ⟨k1,k2⟩ =>by
 have hs:=jfG hX hY k2
 have hd:=uE h1 h2
 refine h ⟨by omega,?_⟩
 rcases h1 with⟨h1,rfl⟩ |⟨h1,rfl⟩ <;>rcases h2 with⟨h2,rfl⟩ |⟨h2,rfl⟩
 ·exact hs
 ·omega
 ·omega
 ·simp only at hs
  have e1: (v.1- p.1) * (v.1- q.1) = (p.1- v.1) * (q.1- v.1) :=by grind
  have e2: (v.2- p.2) * (v.2- q.2) = (p.2- v.2) * (q.2- v.2) :=by grind
  rw [e1,e2] at hs
  exact hs
theorem YW (o a:Pn) :yz o a=0∨yz o a=1:=by unfold yz;split<;>simp
theorem Gb (v f p q:Pn) :Ga v f p q=true↔((ME v p f<0∧¬ME v q f<0)∨((ME v p f<0↔ME v q f<0)∧0<ME v p q)) :=by
 unfold Ga
 by_cases h1:ME v p f<0<;>by_cases h2:ME v q f<0<;>simp [h1,h2]
theorem jek (o b p q:Pn) :cwF o b p q=true↔(cwH o b p<cwH o b q∨(cwH o b p=cwH o b q∧tn o p q<0)) :=by
 unfold cwF
 split
 ·rw [decide_eq_true_iff];omega
 ·rw [decide_eq_true_iff];omega
set_option maxHeartbeats 4000000 in
theorem jel {g1 g2 g3 a b c z4 z5 z3:Int} (hT:Tri a b c) (b1:g1=0∨g1=1) (b2:g2=0∨g2=1) (b3:g3=0∨g3=1)
  (d4: (g1=g2∧z4=a)∨(g1≠g2∧z4= -a)) (d5: (g1=g3∧z5=b)∨(g1≠g3∧z5= -b)) (d3: (g2=g3∧z3=c)∨(g2≠g3∧z3= -c))
  (n1:¬(g2=g1∧a=0)) (n2:¬(g3=g1∧b=0)) (n3:¬(g2=g3∧c=0)) :
  ((if z4<0 then(0:Int) else if z4=0 then 1 else 2) < (if z5<0 then 0 else if z5=0 then 1 else 2)∨(if z4<0 then(0:Int) else if z4=0 then 1 else 2) = (if z5<0 then 0 else if z5=0 then 1 else 2)∧z3<0)↔
   ((g2<g1∨(g2=g1∧0< -z4))∧¬(g3<g1∨(g3=g1∧0< -z5)))∨(((g2<g1∨(g2=g1∧0< -z4))↔(g3<g1∨(g3=g1∧0< -z5)))∧(g3<g2∨(g2=g3∧z3<0))) :=by
 have e4:z4=if g1=g2 then a else-a:=by split<;>omega
 have e5:z5=if g1=g3 then b else-b:=by split<;>omega
 have e3:z3=if g2=g3 then c else-c:=by split<;>omega
 clear d4 d5 d3
 rcases ji1 a 0 with c1 | c1 | c1<;>rcases ji1 b 0 with c2 | c2 | c2<;>rcases ji1 c 0 with c3 | c3 | c3<;>
  first
  | exact absurd (hT.t1 Om Om).1 Om
  | exact absurd ((hT.t1 Om Om).2 Om) Om
  | exact absurd (hT.t2 Om Om).1 Om
  | exact absurd ((hT.t2 Om Om).2 Om) Om
  | exact absurd (hT.t3 Om Om).1 Om
  | exact absurd ((hT.t3 Om Om).2 Om) Om
  | exact absurd (hT.t4 Om Om).1 Om
  | exact absurd ((hT.t4 Om Om).2 Om) Om
  | exact absurd (hT.t5 Om Om).1 Om
  | exact absurd ((hT.t5 Om Om).2 Om) Om
  | exact absurd (hT.t6 Om Om).1 Om
  | exact absurd ((hT.t6 Om Om).2 Om) Om
  | (clear hT;rcases b1 with rfl | rfl<;>rcases b2 with rfl | rfl<;>rcases b3 with rfl | rfl<;>simp at e4 e5 e3 n1 n2 n3<;>subst e4 e5 e3<;> (repeat' split) <;>omega)
theorem jgo {v f p q:Pn} (hf:f≠v) (hp:p≠v) (hq:q≠v) (h1:¬Uk v p f) (h2:¬Uk v q f) (h3:¬Uk v p q) :cwF v f p q=Ga v f p q:=by
 obtain ⟨F,uF,kF⟩ :=Zq hf
 obtain ⟨P,uP,kP⟩ :=Zq hp
 obtain ⟨Q,uQ,kQ⟩ :=Zq hq
 have n1:=XG uP uF kP kF h1
 have n2:=XG uQ uF kQ kF h2
 have n3:=XG uP uQ kP kQ h3
 have f1:tn v p f= -tn v f p:=by simp only [tn,Q8];grind
 have f2:tn v q f= -tn v f q:=by simp only [tn,Q8];grind
 rw [zL F P] at n1
 rw [zL F Q] at n2
 have:=jel (jdF uF uP uQ) (YW v f) (YW v p) (YW v q) (uE kF kP) (uE kF kQ) (uE kP kQ) (fun h=>n1 ⟨h.1,by omega⟩) (fun h=>n2 ⟨h.1,by omega⟩) n3
 rw [jiN,jek,Gb,jaU,jaU,xa,f1,f2]
 exact this
end Go.Proofs.YtpncbbcmoiiipaaGreat
