import Derived.Test.YtpncbbcmoiiipaaGreatKNetS
import Derived.Test.YtpncbbcmoiiipaaGreatKCross
set_option linter.unusedVariables false
set_option linter.unusedSimpArgs false
namespace Go.Proofs.YtpncbbcmoiiipaaGreat
open Go Go.RowKit
set_option maxRecDepth 100000
set_option maxHeartbeats 4000000
theorem jhQ (p q:Pn) (w:World) (hp:bd2 p) (hq:bd2 q) :Calls Tryz.prog 240 #[pV p,pV q] w fun e w'=>e= .returned (pV (p.1+q.1,p.2+q.2))∧Over w w':=by
 obtain ⟨⟨a1,a2⟩,a3,a4⟩ :=hp;obtain ⟨⟨b1,b2⟩,b3,b4⟩ :=hq
 refine Jh (m:=16) (Tryz.func240) J J (lb J) ?_;refine S3 ?_;refine aX (fun b1=> ?_);refine N1 ?_;refine aX (fun b2=> ?_);refine N1 ?_;refine aL (fun b3=> ?_);refine N13 ?_;refine a9 (JU J J (q8 J J)) ?_;refine S4 ?_;refine jM J (qh (k:=2) J jj J J) ?_
 intro w' hs
 exact⟨rfl,hs.fin⟩
theorem C2 (p:Pn) (w:World) (hp:bd2 p) :Calls Tryz.prog 242 #[pV p, .int .i64 2] w fun e w'=>e= .returned (pV (2*p.1,2*p.2))∧Over w w':=by
 obtain ⟨⟨a1,a2⟩,a3,a4⟩ :=hp
 refine Jh (m:=14) (Tryz.func242) J J (lb J) ?_;refine S3 ?_;refine aX (fun b1=> ?_);refine N1 ?_;refine aL (fun b2=> ?_);refine N11 ?_;refine a9 (JU J J (q8 J J)) ?_;refine S4 ?_;refine jM J (qh (k:=1) J jj J J) ?_
 intro w' hs
 exact⟨by rw [jiV p.1,jiV p.2],hs.fin⟩
theorem jda (p:Pn) (w:World) (hp:uB p.1∧uB p.2) :Calls Tryz.prog 241 #[pV p] w fun e w'=>e= .returned (pV (-p.2,p.1))∧Over w w':=by
 obtain ⟨⟨a1,a2⟩,a3,a4⟩ :=hp
 refine Jh (m:=9) (Tryz.func241) J J (lb J) ?_;refine S3 ?_;refine aX (fun b1=> ?_);refine N1 ?_;refine aL (fun b2=> ?_);refine N5 ?_;refine a9 (YD J J Om Om) ?_;refine S2 ?_;refine a9 (JU J J (q8 J J)) ?_;refine S4 ?_;refine jM J (qh (k:=1) J jj J J) ?_
 intro w' hs
 exact⟨rfl,hs.fin⟩
def Le (p:Leg) :Pn:=if p.ay=p.b_y then(-(KU p),vC p) else(vC p,KU p)
def Bx (p q:Leg) :Leg:=if p.ay=p.b_y then ZW (Q2 true q) else Q2 true q
theorem TN (p q:Leg) :BD p q=Qw (Bx p q) (Le p).1 (Le p).2:=by
 unfold BD Bx Le
 split<;>rfl
theorem jgF {p:Leg} (h:qN p) :uB (Le p).1∧uB (Le p).2:=by
 obtain ⟨⟨a1,a2⟩,⟨a3,a4⟩,⟨b1,b2⟩,b3,b4⟩ :=h
 unfold Le vC KU
 split
 ·refine⟨⟨?_,?_⟩,?_,?_⟩ <;> (simp only;omega)
 ·refine⟨⟨?_,?_⟩,?_,?_⟩ <;> (simp only;omega)
theorem jgz {p q:Leg} (h:qN q) :uB (Bx p q).ax∧uB (Bx p q).ay∧uB (Bx p q).bx∧uB (Bx p q).b_y:=by
 obtain ⟨h1,h2,h3,h4⟩ :=PE true h
 unfold Bx ZW uB at*
 split
 ·simp only;omega
 ·exact⟨h1,h2,h3,h4⟩
theorem jfP {l:Leg} (h:qN l) :bd2 (lA l)∧bd2 (lB l) :=⟨⟨h.1,h.2.1⟩,h.2.2.1,h.2.2.2⟩
theorem Rq {s:Bool} {l:List Nt} {k:Nat} :QE s l k (k+1) =QE s l k k:=by simp [QE]
theorem ja3 {s:Bool} {l:List Nt} {k i:Nat} (h:i≠k) (hu:Fq (Bx (nt l k).e (nt l i).e) (Le (nt l k).e).1 (Le (nt l k).e).2=true) :QE s l k i+VP s (nt l i) =QE s l k (i+1) :=by
 rw [QE,if_neg h,TN,Qw,if_pos hu,jjM]
theorem Rp {s:Bool} {l:List Nt} {k i:Nat} (h:i≠k) (hu:Fq (Bx (nt l k).e (nt l i).e) (Le (nt l k).e).1 (Le (nt l k).e).2=false) (hd:ud (Bx (nt l k).e (nt l i).e) (Le (nt l k).e).1 (Le (nt l k).e).2=true) :QE s l k i- VP s (nt l i) =QE s l k (i+1) :=by
 rw [QE,if_neg h,TN,Qw,hu,if_neg (by simp),if_pos hd,Int.mul_neg,jjM]
 omega
theorem Rr {s:Bool} {l:List Nt} {k i:Nat} (h:i≠k) (hu:Fq (Bx (nt l k).e (nt l i).e) (Le (nt l k).e).1 (Le (nt l k).e).2=false) (hd:ud (Bx (nt l k).e (nt l i).e) (Le (nt l k).e).1 (Le (nt l k).e).2=false) :QE s l k i=QE s l k (i+1) :=by
 rw [QE,if_neg h,TN,Qw,hu,if_neg (by simp),hd,if_neg (by simp),Int.mul_zero,Int.add_zero]
theorem BO (l:List Nt) (x:Option Addr×Nat) (k:Nat) (w:World) (hr: (I5 l x).P w) (hk:k<l.length) (hok:∀y∈l,qN y.e) (hl:l.length≤16384) (ha:∀t,aS t l≤16384) :
  Calls Tryz.prog 188 #[.slice x.1 l.length x.2, .int .i64 (k:Int)] w fun e w'=>e= .returned (.tuple #[.int .i64 (QE false l k l.length), .int .i64 (QE true l k l.length)])∧Over w w':=by
 have hpo:=hok _ (GZ hk)
 obtain ⟨m1,m2⟩ :=jgF hpo
 obtain ⟨⟨a1,a2⟩,⟨a3,a4⟩,⟨b1',b2'⟩,b3',b4'⟩ :=id hpo
 obtain ⟨hp1,hp2⟩ :=jfP hpo
 obtain ⟨p,hp⟩ :∃p,p= (nt l k).e:=⟨_,rfl⟩
 refine Jh (m:=132) (Tryz.func188) J J (lb J) ?_;refine S9 ?_;refine a9 (qQ (j:=k) (fun w hs=>ke hr hs.fin) J J J JH hk) ?_;refine S1 ?_;refine a9 (jk J J KQ J (Z5 [.int .i64 (nt l k).e.ax, .int .i64 (nt l k).e.ay, .int .i64 (nt l k).e.bx, .int .i64 (nt l k).e.b_y] 0 (fun w hs=>ke hr hs.fin) hk Om (Me J J J J))) ?_;refine S1 ?_;refine aL (fun b1=> ?_);refine N20 ?_;refine a9 (jT Ot J J (fun w1 hs=>jhQ (lA (nt l k).e) (lB (nt l k).e) w1 hp1 hp2)) ?_;refine S1 ?_;refine aL (fun b2=> ?_);refine N3 ?_;refine uf [] ([.cel b1 120 [.int .i64 (nt l k).e.ax, .int .i64 (nt l k).e.ay, .int .i64 (nt l k).e.bx, .int .i64 (nt l k).e.b_y], .cel b2 56 [.int .i64 (Le (nt l k).e).1, .int .i64 (Le (nt l k).e).2]]) (kK [0,1,4,5,7,8]) (fun L h_t31=> ?_) ?_
 ·refine S4 ?_;refine cZ (fun c1=> ?_) (fun c1=> ?_)
  ·refine S2 ?_;refine a9 (jT WN J J (fun w1 hs=>jda (vC (nt l k).e,KU (nt l k).e) w1 ⟨⟨by unfold vC;simp only;omega,by unfold vC;simp only;omega⟩,by unfold KU;simp only;omega,by unfold KU;simp only;omega⟩)) ?_;refine S3 ?_
   exact Jk h_t31 ⟨J,sz⟩ (fun _ h=>h.upto ⟨J,by rw [Le,if_pos c1],trivial⟩)
  ·refine S2 ?_
   exact Jk h_t31 ⟨J,sz⟩ (fun _ h=>h.upto ⟨J,by rw [Le,if_neg c1];rfl,trivial⟩)
 ·refine V14 ?_;refine qz (X:=Nat) (fun i=>i≤l.length) (fun i=>l.length- i) (fun i=> [(9, .int .i64 (QE false l k i)),(10, .int .i64 (QE true l k i)),(11, .int .i64 (i:Int))]) (kK [0,1,4,5,7,8]) 0 (jii _) ⟨J,sz⟩ ?_
  intro i hi L hL1
  refine v9 ?_
  have hb1:=yC (s:=false) (k:=k) (show i≤l.length from hi)
  have hb2:=yC (s:=true) (k:=k) (show i≤l.length from hi)
  have ha1:=ha false
  have ha2:=ha true
  refine S8 ?_;refine cZ (fun c2=> ?_) (fun c2=> ?_)
  ·have hlt:i<l.length:=Om
   have hqo:=hok _ (GZ hlt)
   obtain ⟨q1,q2⟩ :=jfP hqo
   obtain ⟨d1,d2,d3,d4⟩ :=jgz (p:= (nt l k).e) hqo
   obtain ⟨⟨e1,e2⟩,⟨e3,e4⟩,⟨e5,e6⟩,e7,e8⟩ :=id hqo
   have hn1:=xj (s:=false) hlt
   have hn2:=xj (s:=true) hlt
   simp only [VP,if_true,jjg,if_false] at hn1 hn2
   refine S11 ?_;refine cZ (fun c3=> ?_) (fun c3=> ?_)
   ·refine S9 ?_
    exact qi hL1 (i+1) Om Om ⟨vi (by rw [show i=k by omega,Rq]),vi (by rw [show i=k by omega,Rq]),vi Om,sz⟩ (u9 J)
   ·have hik:i≠k:=Om
    refine S6 ?_;refine a9 (qQ (j:=i) (fun w hs=>ke hr hs.fin) J J J JH hlt) ?_;refine S2 ?_;refine a9 (jk J J jj J (Z5 [.int .i64 (nt l i).e.ax, .int .i64 (nt l i).e.ay] 0 (fun w hs=>ke hr hs.fin) hlt Om (xS J J))) ?_;refine a9 (jT yT J J (fun w1 hs=>C2 (lA (nt l i).e) w1 q1)) ?_;refine S1 ?_;refine aL (fun b3=> ?_);refine N7 ?_;refine a9 (qQ (j:=i) (fun w hs=>ke hr hs.fin) J J J JH hlt) ?_;refine S2 ?_;refine a9 (jk J J jj J (Z5 [.int .i64 (nt l i).e.bx, .int .i64 (nt l i).e.b_y] 2 (fun w hs=>ke hr hs.fin) hlt Om (xS J J))) ?_;refine a9 (jT yT J J (fun w1 hs=>C2 (lB (nt l i).e) w1 q2)) ?_;refine S1 ?_;refine aL (fun b4=> ?_);refine N3 ?_;refine uf [] ([.cel b1 120 [.int .i64 (nt l k).e.ax, .int .i64 (nt l k).e.ay, .int .i64 (nt l k).e.bx, .int .i64 (nt l k).e.b_y], .cel b2 56 [.int .i64 (Le (nt l k).e).1, .int .i64 (Le (nt l k).e).2], .cel b3 56 [.int .i64 (Bx (nt l k).e (nt l i).e).ax, .int .i64 (Bx (nt l k).e (nt l i).e).ay], .cel b4 56 [.int .i64 (Bx (nt l k).e (nt l i).e).bx, .int .i64 (Bx (nt l k).e (nt l i).e).b_y]]) (kK [0,1,4,5,7,8,9,10,11,34,35,36,37,40,41,42,43,44,45,46,47,48,49,12,50,51,52,53,54,55,56,13]) (fun L h_t57=> ?_) ?_
    ·refine S4 ?_;refine cZ (fun c4=> ?_) (fun c4=> ?_)
     ·refine S3 ?_;refine a9 (jT WN J J (fun w1 hs=>jda (2* (nt l i).e.ax,2* (nt l i).e.ay) w1 ⟨⟨by simp only;omega,by simp only;omega⟩,by simp only;omega,by simp only;omega⟩)) ?_;refine S5 ?_;refine a9 (jT WN J J (fun w1 hs=>jda (2* (nt l i).e.bx,2* (nt l i).e.b_y) w1 ⟨⟨by simp only;omega,by simp only;omega⟩,by simp only;omega,by simp only;omega⟩)) ?_;refine S3 ?_
      exact Jk h_t57 ⟨J,sz⟩ (fun _ h=>h.upto ⟨J,J,by rw [Bx,if_pos c4];rfl,by rw [Bx,if_pos c4];rfl,trivial⟩)
     ·refine S2 ?_
      exact Jk h_t57 ⟨J,sz⟩ (fun _ h=>h.upto ⟨J,J,by rw [Bx,if_neg c4];rfl,by rw [Bx,if_neg c4];rfl,trivial⟩)
    ·refine V1 ?_;refine qt [(62, .bool (Fq (Bx (nt l k).e (nt l i).e) (Le (nt l k).e).1 (Le (nt l k).e).2))] (kK [0,1,4,5,7,8,9,10,11,34,35,36,37,40,41,42,43,44,45,46,47,48,49,12,50,51,52,53,54,55,56,13]) (fun L h_17=> ?_) ?_
     ·refine S7 ?_;refine cV 68 (fun g1=> ?_) (fun g1=> ?_)
      ·refine S12 ?_;refine cV 75 (fun g2=> ?_) (fun g2=> ?_)
       ·refine S7 ?_;refine o9 (jT Qj J J (fun w h=>Wq _ _ _ _ _ _ w d1.1 d1.2 d2.1 d2.2 d3.1 d3.2 d4.1 d4.2 m1.1 m1.2 m2.1 m2.2)) ?_;refine S5 ?_
        exact Jk h_17 ⟨vb (by simp [Fq, *]),sz⟩ (u9 J)
       ·refine S8 ?_
        exact Jk h_17 ⟨vb (by symm;simp [Fq];omega),sz⟩ (u9 J)
      ·refine S15 ?_
       exact Jk h_17 ⟨vb (by symm;simp [Fq];omega),sz⟩ (u9 J)
     ·refine v9 ?_;refine cZ (fun c5=> ?_) (fun c5=> ?_)
      ·refine S5 ?_;refine a9 (qQ (j:=i) (fun w hs=>ke hr hs.fin) J J J JH hlt) ?_;refine S1 ?_;refine a9 (jn J J jt (xJ (i:=4) (fun w hs=>ke hr hs.fin) hlt Om J)) ?_;refine S7 ?_;refine a9 (qQ (j:=i) (fun w hs=>ke hr hs.fin) J J J JH hlt) ?_;refine S1 ?_;refine a9 (jn J J jt (xJ (i:=5) (fun w hs=>ke hr hs.fin) hlt Om J)) ?_;refine S11 ?_
       exact qi hL1 (i+1) Om Om ⟨vi (ja3 (s:=false) hik c5),vi (ja3 (s:=true) hik c5),vi Om,sz⟩ (u9 J)
      ·refine qt [(96, .bool (ud (Bx (nt l k).e (nt l i).e) (Le (nt l k).e).1 (Le (nt l k).e).2))] (kK [0,1,4,5,7,8,9,10,11,34,35,36,37,40,41,42,43,44,45,46,47,48,49,12,50,51,52,53,54,55,56,13,62]) (fun L h_20=> ?_) ?_
       ·refine S7 ?_;refine cV 102 (fun g3=> ?_) (fun g3=> ?_)
        ·refine S12 ?_;refine cV 109 (fun g4=> ?_) (fun g4=> ?_)
         ·refine S7 ?_;refine o9 (jT Qj J J (fun w h=>Wq _ _ _ _ _ _ w d1.1 d1.2 d2.1 d2.2 d3.1 d3.2 d4.1 d4.2 m1.1 m1.2 m2.1 m2.2)) ?_;refine S5 ?_
          exact Jk h_20 ⟨vb (by simp [ud, *]),sz⟩ (u9 J)
         ·refine S8 ?_
          exact Jk h_20 ⟨vb (by symm;simp [ud];omega),sz⟩ (u9 J)
        ·refine S15 ?_
         exact Jk h_20 ⟨vb (by symm;simp [ud];omega),sz⟩ (u9 J)
       ·refine v9 ?_;refine cZ (fun c6=> ?_) (fun c6=> ?_)
        ·refine S5 ?_;refine a9 (qQ (j:=i) (fun w hs=>ke hr hs.fin) J J J JH hlt) ?_;refine S1 ?_;refine a9 (jn J J jt (xJ (i:=4) (fun w hs=>ke hr hs.fin) hlt Om J)) ?_;refine S7 ?_;refine a9 (qQ (j:=i) (fun w hs=>ke hr hs.fin) J J J JH hlt) ?_;refine S1 ?_;refine a9 (jn J J jt (xJ (i:=5) (fun w hs=>ke hr hs.fin) hlt Om J)) ?_;refine S11 ?_
         exact qi hL1 (i+1) Om Om ⟨vi (Rp (s:=false) hik c5 c6),vi (Rp (s:=true) hik c5 c6),vi Om,sz⟩ (u9 J)
        ·refine S9 ?_
         exact qi hL1 (i+1) Om Om ⟨vi (Rr (s:=false) hik c5 c6),vi (Rr (s:=true) hik c5 c6),vi Om,sz⟩ (u9 J)
  ·have hin:i=l.length:=Om
   refine S13 ?_;refine qv J (.tmp J) (.tmp J) ?_
   intro w' hs
   exact⟨by rw [hin],hs.fin⟩
def sdN (l:List Nt) (k:Nat) :Nt:= {nt l k with l1:=QE false l k l.length+ (nt l k).one,l2:=QE true l k l.length+ (nt l k).two}
def ub (l:List Nt) (i:Nat) :List Nt:= (List.range l.length).map fun k=>if k<i then sdN l k else nt l k
theorem Ix (l:List Nt) (i:Nat) : (ub l i).length=l.length:=by simp [ub]
theorem NM {l:List Nt} {i k:Nat} (h:k<l.length) :nt (ub l i) k=if k<i then sdN l k else nt l k:=by
 simp [nt,ub,List.getD,List.getElem?_map,List.getElem?_range h]
theorem CN {l:List Nt} {i k:Nat} (h:k<l.length) : (nt (ub l i) k).e= (nt l k).e∧(∀s,VP s (nt (ub l i) k) =VP s (nt l k)) :=by
 rw [NM h]
 split
 ·exact⟨rfl,fun s=>by cases s<;>rfl⟩
 ·exact⟨rfl,fun s=>rfl⟩
theorem P5 (l:List Nt) :l= (List.range l.length).map (nt l) :=by
 refine jjz (by simp) fun k h1 h2=> ?_
 simp only [jjs,jjU]
 exact zw h1
theorem jdj (l:List Nt) :ub l 0=l:=by
 conv=>rhs;rw [P5 l]
 simp [ub]
theorem jdi {l:List Nt} {i:Nat} (h:i<l.length) :ub l (i+1) = (ub l i).set i (sdN l i) :=by
 refine jjz (by simp [ub]) fun k h1 h2=> ?_
 rw [List.getElem_set]
 simp only [ub,jjs,jjU]
 by_cases e:i=k
 ·subst e;rw [if_pos Om,if_pos rfl]
 ·rw [if_neg e]
  by_cases c:k<i
  ·rw [if_pos c,if_pos Om]
  ·rw [if_neg c,if_neg Om]
theorem VZ {α β:Type} (f:β→Int) (g:α→β) :∀l:List α,sm f (l.map g) =sm (fun x=>f (g x)) l
 | [] =>rfl
 | x::l=>by simp only [jiA,sm,VZ f g l]
theorem jhM (l:List Nt) (i:Nat) (t:Bool) :aS t (ub l i) =aS t l:=by
 have e:∀m:List Nt,aS t m=sm (fun k=>ZR (VP t (nt m k))) (List.range m.length) :=fun m=>by
  conv=>lhs;rw [P5 m]
  unfold aS
  rw [VZ]
 rw [e,e l,Ix]
 exact JW fun k hk=>by rw [(CN (List.mem_range.1 hk)).2]
theorem Iw {l:List Nt} {i k:Nat} (hk:k<l.length) (s:Bool) :∀j,j≤l.length→QE s (ub l i) k j=QE s l k j
 | 0,_=>rfl
 | j+1,h=>by rw [QE,QE,Iw hk s j Om,(CN (show j<l.length by omega)).1,(CN (show j<l.length by omega)).2,(CN hk).1]
theorem jg6 {l:List Nt} {i:Nat} (h:∀y∈l,qN y.e) :∀y∈ub l i,qN y.e:=fun y hy=>by
 obtain ⟨k,hk,rfl⟩ :=jip.1 hy
 have hk:=List.mem_range.1 hk
 split
 ·exact(show qN (nt l k).e from h _ (GZ hk))
 ·exact h _ (GZ hk)
def Uh (l:List Nt) :List Nt:=ub l l.length
theorem jhO {l:List Nt} {k:Nat} {e:Nt} (h:k<l.length) (he:nt l k=e) {v:Int} :qP (l.flatMap qq) (0+k*8+6) [.int .i64 v] = (l.set k {e with l1:=v}).flatMap qq:=by
 subst he
 exact UZ qq kE (Ih h) (jZ (nt l k).e++ [.int .i64 (nt l k).one, .int .i64 (nt l k).two]) [.int .i64 (nt l k).l1] [.int .i64 v] [.int .i64 (nt l k).l2] (by simp [qq]) (by simp [qq]) rfl (by simp [jZ])
theorem jhP {l:List Nt} {k:Nat} {e:Nt} (h:k<l.length) (he:nt l k=e) {v:Int} :qP (l.flatMap qq) (0+k*8+7) [.int .i64 v] = (l.set k {e with l2:=v}).flatMap qq:=by
 subst he
 exact UZ qq kE (Ih h) (jZ (nt l k).e++ [.int .i64 (nt l k).one, .int .i64 (nt l k).two, .int .i64 (nt l k).l1]) [.int .i64 (nt l k).l2] [.int .i64 v] [] (by simp [qq]) (by simp [qq]) rfl (by simp [jZ])
theorem jgN {l:List Nt} {k:Nat} {e:Nt} (h:k<l.length) :nt (l.set k e) k=e:=by simp [nt,List.getD,h]
theorem FW (l:List Nt) (x:Option Addr×Nat) (w:World) (hr: (I5 l x).P w) (hok:∀y∈l,qN y.e) (hl:l.length≤16384) (ha:∀t,aS t l≤16384) :
  Calls Tryz.prog 138 #[.slice x.1 l.length x.2] w fun e w'=>e= .returned (.tuple #[])∧Wrs (I5 l x).F w w'∧(JY 0 212 8 l.length ((Uh l).flatMap qq) x).P w':=by
 refine Vp (m:=39) (jag x) (I5 l x) (hr) (fun b hb=>Hm.1 hb) J (Tryz.func138) J J (lb J) ?_;refine S5 ?_;refine JQ (X:=Nat) (fun i=>i≤l.length) (fun i=>l.length- i) (fun i=> [(2, .int .i64 (i:Int))]) (kK [0]) (fun i=> [JY 0 212 8 l.length ((ub l i).flatMap qq) x]) 0 (jii _) ⟨J,sz⟩ (fun _ h=>by rw [jdj];exact h) ?_
 intro i hi L hL1
 refine v9 ?_;refine r9 ?_
 obtain ⟨M,hM⟩ :∃M,M=ub l i:=⟨_,rfl⟩
 have hMl:M.length=l.length:= (by rw [hM];exact Ix l i)
 have hMa:∀t,aS t M≤16384:= (fun t=>by rw [hM,jhM];exact ha t)
 have hMo:∀y∈M,qN y.e:= (by rw [hM];exact jg6 hok)
 rw [←hM]
 refine S8 ?_;refine cZ (fun c1=> ?_) (fun c1=> ?_)
 ·have hlt:i<l.length:=Om
  have hlM:i<M.length:=Om
  have hb1:QE false M i l.length=QE false l i l.length:= (by rw [hM];exact Iw hlt false _ (jih _))
  have hb2:QE true M i l.length=QE true l i l.length:= (by rw [hM];exact Iw hlt true _ (jih _))
  have hn:nt M i=nt l i:= (by rw [hM,NM hlt,if_neg Om])
  have hd1:=yC (s:=false) (k:=i) (jih l.length)
  have hd2:=yC (s:=true) (k:=i) (jih l.length)
  have hc1:=xj (s:=false) hlt
  have hc2:=xj (s:=true) hlt
  have ha1:=ha false
  have ha2:=ha true
  simp only [VP,if_true,jjg,if_false] at hc1 hc2
  refine S8 ?_;refine a9 (jT XT J J (fun w1 hs=>by have:=BO M x i w1 (by have:= (hs.all 0 _ J).1;rw [←hMl] at this;exact this) hlM hMo Om hMa;rw [hMl,hb1,hb2] at this;exact this)) ?_;refine S13 ?_;refine a9 (qQ (j:=i) (fun w hs=> (hs.all 0 _ J).1) J J J JH hlt) ?_;refine S1 ?_;refine a9 (jn J J jt (xJ (i:=4) (v:= .int .i64 (nt l i).one) (fun w hs=> (hs.all 0 _ J).1) hlM Om (by rw [hn];rfl))) ?_;refine S1 ?_;refine a9 (qQ (j:=i) (fun w hs=> (hs.all 0 _ J).1) J J J JH hlt) ?_;refine S2 ?_;refine Uw (k:=0) (vs:= [.int .i64 (QE false l i l.length+ (nt l i).one)]) J J J J (by rfl) (by rfl) kS.szx J J (by simp) (by rw [WG qq 8 kE];simp only [jim,jiH];omega) ?_;refine n9 ?_
  rw [jhO hlM hn]
  have hlM2:i< (M.set i {nt l i with l1:=QE false l i l.length+ (nt l i).one}).length:= (by rw [jjv];exact hlM)
  have hn2:=jgN (e:= {nt l i with l1:=QE false l i l.length+ (nt l i).one}) hlM
  refine S7 ?_;refine a9 (qQ (j:=i) (fun w hs=> (hs.all 0 _ J).1) J J J JH hlt) ?_;refine S1 ?_;refine a9 (jn J J jt (xJ (i:=5) (v:= .int .i64 (nt l i).two) (fun w hs=> (hs.all 0 _ J).1) hlM2 Om (by rw [hn2];rfl))) ?_;refine S1 ?_;refine a9 (qQ (j:=i) (fun w hs=> (hs.all 0 _ J).1) J J J JH hlt) ?_;refine S2 ?_;refine Uw (k:=0) (vs:= [.int .i64 (QE true l i l.length+ (nt l i).two)]) J J J J (by rfl) (by rfl) kS.szx J J (by simp) (by rw [WG qq 8 kE,jjv];simp only [jim,jiH];omega) ?_;refine n9 ?_
  rw [jhP hlM2 hn2,List.set_set]
  refine S8 ?_
  exact Ji hL1 (i+1) Om Om ⟨vi Om,sz⟩ (fun _ h=>h.upto ⟨by rw [jdi hlt,←hM];rfl,trivial⟩)
 ·have hin:i=l.length:=Om
  refine S4 ?_;refine kw J ?_
  intro w' hs
  exact⟨rfl,hs.over.wrs.mono fun b hb=>Hm.2 hb,by have:= (hs.all 0 _ rfl).1;rw [hM,hin] at this;exact this⟩
end Go.Proofs.YtpncbbcmoiiipaaGreat
namespace Go.Proofs.YtpncbbcmoiiipaaGreat
open Go Go.RowKit
section
variable {w0:Bs} {Rs:List Res}
theorem rdG {α:Type} {f:α→List Value} {m T B q:Nat} {l:List α} {r:Option Addr×Nat} {j off i:Nat} {a:α} {v:Value} (hf:∀a,(f a).length=m) (hr:∀w,St w0 Rs w→(JY B T m q (l.flatMap f) r).P w) (ha:l[j]? =some a) (he:off=j*m+i) (hv: (f a)[i]? =some v) :∀w,St w0 Rs w→w.cell? ⟨W3 r.1,off,none⟩ =some v:=fun w hs=>by
 refine X5 (hr w hs) ?_
 have hi:= (List.getElem?_eq_some_iff.1 hv).1
 obtain ⟨hj,e⟩ :=List.getElem?_eq_some_iff.1 ha
 rw [he,Xo f m hf l j i hj (by rw [hf] at hi;exact hi),e]
 exact hv
theorem jh4 {α:Type} {f:α→List Value} {m T B q:Nat} {l:List α} {r:Option Addr×Nat} {j off:Nat} {a:α} (vs:List Value) (i:Nat) (hf:∀a,(f a).length=m) (hr:∀w,St w0 Rs w→(JY B T m q (l.flatMap f) r).P w) (ha:l[j]? =some a) (he:off=j*m+i) (hv:∀q v,vs[q]? =some v→(f a)[i+q]? =some v) :∀w,St w0 Rs w→∀q v,vs[q]? =some v→w.cell? ⟨W3 r.1,off+q,none⟩ =some v:=fun w hs q v h=>
 rdG hf hr ha Om (hv q v h) w hs
end
theorem jeI {l:List Leg} {j:Nat} (h:j<l.length) :l[j]? =some (lg l j) :=by rw [List.getElem?_eq_getElem h,Uz h]
theorem jg3 (B T s:Nat) (w:World) : (JY B T s 0 [] (none,0)).P w:=World.ownsRow_nil _ _ _ _
theorem yJ {rs:List jV} (h:JE rs=true) :Fine (jE rs) :=⟨OP h,zt rs rs.length,fun f=>Cm f rs rs.length⟩
structure Key (es:List Leg) (p:Leg) :Prop where
 ok:qN p
 ne:lA p≠lB p
 ord:¬vh (lB p) (lA p)
theorem Sh {es:List Leg} : (KI es).length≤es.length:=by
 have:=ue (s:=false) es []
 rw [KI,jit]
 simpa using this
theorem Tm (l:List Nt) : (Uh l).length=l.length:=Ix l _
theorem CO {l:List Nt} {k:Nat} (h:k<l.length) :nt (Uh l) k=sdN l k:=by rw [Uh,NM h,if_pos h]
theorem jaO (t:Bool) :aS t [] =0:=rfl
theorem Yt {es:List Leg} (b1 o1:Nat) (A:Option Addr) (n c:Nat) (rs:List jV) (w:World) (hes:es=jE rs) (hcell:w.cell? ⟨b1,o1,none⟩ =some (.slice A n c)) (hb1:b1<w.heap.size) (h:Rings w A n rs) (ht: (total rs:Int)≤1048577) :
  Calls Tryz.prog 91 #[.pointer (some ⟨b1,o1,none⟩)] w fun e w'=>∃x:Option Addr×Nat,e= .returned (.slice x.1 es.length x.2)∧Over w w'∧(JY 0 120 4 es.length (es.flatMap jZ) x).P w'∧(∀b,(JY 0 120 4 es.length (es.flatMap jZ) x).F b→w.heap.size≤b)∧(JY 0 120 4 es.length (es.flatMap jZ) x).B=0∧True:=by
 subst hes
 exact Qh ((UG b1 o1 A n c rs w hcell hb1 h ht).mono fun e w' ⟨v,h1,_,h2,h3⟩ =>⟨v,h1,h2,h3⟩)
def cr (P Q:Pn) :Int:=P.1*Q.2- P.2*Q.1
def ws (P Q:Pn) :Int:=if(P.2≤0∧0<Q.2)∧0<cr P Q then 1 else if(Q.2≤0∧0<P.2)∧cr P Q<0 then-1 else 0
def up (α:Int) (P:Pn) :Int:=if 0<α∧0<P.2 then 1 else 0
theorem kV {a b p:Int} (h:p=a*b) : (0<a∧0<b∧0<p)∨(0<a∧b<0∧p<0)∨(a<0∧0<b∧p<0)∨(a<0∧b<0∧0<p)∨(a=0∧p=0)∨(b=0∧p=0) :=by
 subst h
 rcases ji1 a 0 with ha | ha | ha
 ·rcases ji1 b 0 with hb | hb | hb
  ·exact .inr (.inr (.inr (.inl ⟨ha,hb,Int.mul_pos_of_neg_of_neg ha hb⟩)))
  ·subst hb;simp
  ·exact .inr (.inr (.inl ⟨ha,hb,jjh ha hb⟩))
 ·subst ha;simp
 ·rcases ji1 b 0 with hb | hb | hb
  ·exact .inr (.inl ⟨ha,hb,Int.mul_neg_of_pos_of_neg ha hb⟩)
  ·subst hb;simp
  ·exact .inl ⟨ha,hb,jiU ha hb⟩
def Hf (α β:Int) (P:Pn) :Prop:=0<α*P.1+β*P.2
theorem ye {α β:Int} {P Q:Pn} (hP:Hf α β P) (hQ:Hf α β Q) :ws P Q=up α Q- up α P:=by
 have key:α*cr P Q= (α*P.1+β*P.2) *Q.2- P.2* (α*Q.1+β*Q.2) :=by unfold cr;grind
 unfold Hf at hP hQ
 have h1:=kV (a:=α*P.1+β*P.2) (b:=Q.2) rfl
 have h2:=kV (a:=P.2) (b:=α*Q.1+β*Q.2) rfl
 have h3:=kV (a:=α) (b:=cr P Q) rfl
 unfold ws up
 generalize (α*P.1+β*P.2) *Q.2=x at*
 generalize P.2* (α*Q.1+β*Q.2) =y at*
 generalize α*cr P Q=z at*
 generalize α*P.1+β*P.2=p at*
 generalize α*Q.1+β*Q.2=q at*
 generalize cr P Q=t at*
 repeat' split
 all_goals omega
theorem My {α β:Int} {P P' Q Q':Pn} (h1:Hf α β P) (h2:Hf α β P') (h3:Hf α β Q) (h4:Hf α β Q') :ws P P'+ws P' Q'=ws P Q+ws Q Q':=by
 rw [ye h1 h2,ye h2 h4,ye h1 h3,ye h3 h4]
 omega
theorem Gx {α β:Int} {P Q R S:Pn} (h1:Hf α β P) (h2:Hf α β Q) (h3:Hf α β R) (h4:Hf α β S) :ws P Q+ws Q R+ws R S+ws S P=0:=by
 rw [ye h1 h2,ye h2 h3,ye h3 h4,ye h4 h1]
 omega
theorem jeh (P Q:Pn) :cr Q P= -cr P Q:=by unfold cr;grind
theorem Mx (P Q:Pn) :ws Q P= -ws P Q:=by
 unfold ws
 rw [jeh]
 generalize cr P Q=t
 repeat' split
 all_goals omega
def sb (P Q:Pn) :Pn:= (P.1- Q.1,P.2- Q.2)
def Z3 (X X' Y Y':Pn) :Int:=ws (sb X Y) (sb X' Y) +ws (sb X' Y) (sb X' Y') +ws (sb X' Y') (sb X Y') +ws (sb X Y') (sb X Y)
theorem Nu (X X' Y Y':Pn) :Z3 X' X Y Y'= -Z3 X X' Y Y':=by
 unfold Z3
 rw [Mx (sb X' Y) (sb X Y),Mx (sb X' Y) (sb X' Y'),Mx (sb X' Y') (sb X Y'),Mx (sb X Y') (sb X Y)]
 have e1:ws (sb X' Y) (sb X' Y') =ws (sb X' Y) (sb X' Y') :=rfl
 omega
theorem jhp (X X' Y:Pn) :cr (sb X Y) (sb X' Y) =tn X X' Y:=by simp only [cr,sb,tn,Q8];grind
theorem jhq (X' Y Y':Pn) :cr (sb X' Y) (sb X' Y') =tn Y Y' X':=by simp only [cr,sb,tn,Q8];grind
theorem jhr (X X' Y':Pn) :cr (sb X' Y') (sb X Y') = -tn X X' Y':=by simp only [cr,sb,tn,Q8];grind
theorem jhs (X Y Y':Pn) :cr (sb X Y') (sb X Y) = -tn Y Y' X:=by simp only [cr,sb,tn,Q8];grind
theorem IQ (X X' Y Y':Pn) :tn X X' Y'- tn X X' Y= -(tn Y Y' X'- tn Y Y' X) :=by simp only [tn,Q8];grind
theorem C5 {P Q:Pn} (h:0<cr P Q) :ws P Q=if P.2≤0∧0<Q.2 then 1 else 0:=by
 unfold ws
 generalize cr P Q=t at*
 repeat' split
 all_goals omega
theorem DL {X X' Y Y':Pn} (h1:0<tn X X' Y) (h2:tn X X' Y'<0) (h3:tn Y Y' X<0) (h4:0<tn Y Y' X') :Z3 X X' Y Y'≠0:=by
 have c0:=jhp X X' Y
 have c1:=jhq X' Y Y'
 have c2:=jhr X X' Y'
 have c3:=jhs X Y Y'
 unfold Z3
 rw [C5 Om,C5 Om,C5 Om,C5 Om]
 have w1:0< -(tn Y Y' X'*tn X X' Y') :=by have:=Int.mul_neg_of_pos_of_neg h4 h2;omega
 have w2:0<tn Y Y' X*tn X X' Y':=Int.mul_pos_of_neg_of_neg h3 h2
 have w3:0< -(tn Y Y' X*tn X X' Y) :=by have:=jjh h3 h1;omega
 have w4:0<tn Y Y' X'*tn X X' Y:=jiU h4 h1
 have hs: -(tn Y Y' X'*tn X X' Y') * (sb X Y).2+tn Y Y' X*tn X X' Y'* (sb X' Y).2+ -(tn Y Y' X*tn X X' Y) * (sb X' Y').2+tn Y Y' X'*tn X X' Y* (sb X Y').2=0:=by
  simp only [tn,Q8,sb];grind
 have z0:∀P Q:Pn,P.2=0→Q.2=0→cr P Q=0:=fun P Q e1 e2=>by simp [cr,e1,e2]
 generalize tn Y Y' X'*tn X X' Y'=a1 at*
 generalize tn Y Y' X*tn X X' Y'=a2 at*
 generalize tn Y Y' X*tn X X' Y=a3 at*
 generalize tn Y Y' X'*tn X X' Y=a4 at*
 generalize tn X X' Y=t1 at*
 generalize tn X X' Y'=t2 at*
 generalize tn Y Y' X=t3 at*
 generalize tn Y Y' X'=t4 at*
 generalize sb X Y=P0 at*
 generalize sb X' Y=P1 at*
 generalize sb X' Y'=P2 at*
 generalize sb X Y'=P3 at*
 intro hz
 by_cases hp:0<P0.2
 ·have k1:0<P1.2∧0<P2.2∧0<P3.2:=by
   by_cases k3:0<P3.2<;>by_cases k2:0<P2.2<;>by_cases k1:0<P1.2<;>simp [hp,k1,k2,k3,Int.not_le.2,jjr.1] at hz⊢<;>omega
  have m0:=jiU w1 hp
  have m1:=jiU w2 k1.1
  have m2:=jiU w3 k1.2.1
  have m3:=jiU w4 k1.2.2
  omega
 ·have k1:P1.2≤0∧P2.2≤0∧P3.2≤0:=by
   by_cases k3:0<P3.2<;>by_cases k2:0<P2.2<;>by_cases k1:0<P1.2<;> (try omega) <;>exfalso<;>revert hz<;> (repeat' split) <;>omega
  have m0:=kV (a:= -a1) (b:=P0.2) rfl
  have m1:=kV (a:=a2) (b:=P1.2) rfl
  have m2:=kV (a:= -a3) (b:=P2.2) rfl
  have m3:=kV (a:=a4) (b:=P3.2) rfl
  have e0:P0.2=0:=by omega
  have e1:P1.2=0:=by omega
  have:=z0 P0 P1 e0 e1
  omega
theorem Ty (a b p:Pn) :tn b a p= -tn a b p:=by simp only [tn,Q8];grind
theorem SC {X X' Y Y':Pn} (h:qf X X' Y Y'=true) :Z3 X X' Y Y'≠0:=by
 have hd:=IQ X X' Y Y'
 obtain ⟨h1,h2⟩ :=K4.1 h
 rcases h1 with h1 | h1
 ·have f1:=Ty X X' Y
  have f2:=Ty X X' Y'
  have:=DL (X:=X') (X':=X) (Y:=Y) (Y':=Y') Om Om Om Om
  rw [Nu] at this
  omega
 ·exact DL Om Om Om Om
theorem He {a b p:Pn} (hab:a≠b) (ht:tn a b p=0) (hn:uO a b p≠true) :∃m n:Int,0<m∧0<n∧m* (a.1- p.1) =n* (b.1- p.1)∧m* (a.2- p.2) =n* (b.2- p.2) :=by
 have ht': (b.1- a.1) * (p.2- a.2) = (b.2- a.2) * (p.1- a.1) :=by simp only [tn,Q8] at ht;omega
 have hn':¬((min a.1 b.1≤p.1∧p.1≤max a.1 b.1)∧min a.2 b.2≤p.2∧p.2≤max a.2 b.2) :=fun h=>hn (KE.2 ⟨ht,h.1,h.2⟩)
 by_cases h1:p.1<a.1∧p.1<b.1
 ·exact⟨b.1- p.1,a.1- p.1,by omega,by omega,jiV ..,by grind⟩
 ·by_cases h2:a.1<p.1∧b.1<p.1
  ·exact⟨p.1- b.1,p.1- a.1,by omega,by omega,by grind,by grind⟩
  ·by_cases h3:p.2<a.2∧p.2<b.2
   ·exact⟨b.2- p.2,a.2- p.2,by omega,by omega,by grind,jiV ..⟩
   ·by_cases h4:a.2<p.2∧b.2<p.2
    ·exact⟨p.2- b.2,p.2- a.2,by omega,by omega,by grind,by grind⟩
    ·exact absurd ⟨⟨by omega,by omega⟩,by omega,by omega⟩ hn'
theorem ZD {a b p q:Pn} (hab:a≠b) (ht:tn a b p=0) (hn:uO a b p≠true) (h1:¬(0<tn p q a∧0<tn p q b)) (h2:¬(tn p q a<0∧tn p q b<0)) :tn p q a=0∧tn p q b=0:=by
 obtain ⟨m,n,hm,hn',e1,e2⟩ :=He hab ht hn
 have key:m*tn p q a=n*tn p q b:=by
  have g1:m*tn p q a= (q.1- p.1) * (m* (a.2- p.2)) - (q.2- p.2) * (m* (a.1- p.1)) :=by simp only [tn,Q8];grind
  have g2:n*tn p q b= (q.1- p.1) * (n* (b.2- p.2)) - (q.2- p.2) * (n* (b.1- p.1)) :=by simp only [tn,Q8];grind
  rw [g1,g2,e1,e2]
 have s1:=kV (a:=m) (b:=tn p q a) rfl
 have s2:=kV (a:=n) (b:=tn p q b) rfl
 omega
theorem Mw (p q a:Pn) :tn q p a= -tn p q a:=by simp only [tn,Q8];grind
structure Off (X X' Y Y':Pn) :Prop where
 x:X≠X'
 y:Y≠Y'
 nn1:uO X X' Y≠true
 nn2:uO X X' Y'≠true
 nn3:Go.Proofs.YtpncbbcmoiiipaaGreat.uO Y Y' X≠true
 nn4:Go.Proofs.YtpncbbcmoiiipaaGreat.uO Y Y' X'≠true
theorem FJ {p q x1 x2 y1 y2 k j:Int} (hk:0<k) (hj:0<j) (e1:k*x1=j*y1) (e2:k*x2=j*y2) (h:0<p*y1+q*y2) :0<p*x1+q*x2:=by
 have e:k* (p*x1+q*x2) =j* (p*y1+q*y2) :=by
  have:k* (p*x1+q*x2) =p* (k*x1) +q* (k*x2) :=by grind
  rw [this,e1,e2]
  grind
 have s1:=kV (a:=k) (b:=p*x1+q*x2) rfl
 have s2:=jiU hj h
 omega
theorem EO {X X' Y Y':Pn} (h:Off X X' Y Y') (hs:qf X X' Y Y'≠true) :Z3 X X' Y Y'=0:=by
 have g0:∀Z W:Pn,-(X'.1- X.1) * (Z.2- W.2) + (X'.2- X.2) * (Z.1- W.1) =tn X X' W- tn X X' Z:=fun Z W=>by simp only [tn,Q8];grind
 have g1:∀Z W:Pn,(Y'.1- Y.1) * (Z.2- W.2) + -(Y'.2- Y.2) * (Z.1- W.1) =tn Y Y' Z- tn Y Y' W:=fun Z W=>by simp only [tn,Q8];grind
 have x0:tn X X' X=0:=by simp only [tn,Q8];grind
 have x1:tn X X' X'=0:=by simp only [tn,Q8];grind
 have y0:tn Y Y' Y=0:=by simp only [tn,Q8];grind
 have y1:tn Y Y' Y'=0:=by simp only [tn,Q8];grind
 by_cases a1:0<tn X X' Y∧0<tn X X' Y'
 ·refine Gx (α:=X'.2- X.2) (β:= -(X'.1- X.1)) ?_ ?_ ?_ ?_<;>simp only [Hf,sb]
  ·have:=g0 X Y;omega
  ·have:=g0 X' Y;omega
  ·have:=g0 X' Y';omega
  ·have:=g0 X Y';omega
 by_cases a2:tn X X' Y<0∧tn X X' Y'<0
 ·have n1:∀Z W:Pn,-(X'.2- X.2) * (Z.1- W.1) + (X'.1- X.1) * (Z.2- W.2) =tn X X' Z- tn X X' W:=fun Z W=>by simp only [tn,Q8];grind
  refine Gx (α:= -(X'.2- X.2)) (β:=X'.1- X.1) ?_ ?_ ?_ ?_<;>simp only [Hf,sb]
  ·have:=n1 X Y;omega
  ·have:=n1 X' Y;omega
  ·have:=n1 X' Y';omega
  ·have:=n1 X Y';omega
 by_cases a3:0<tn Y Y' X∧0<tn Y Y' X'
 ·refine Gx (α:= -(Y'.2- Y.2)) (β:=Y'.1- Y.1) ?_ ?_ ?_ ?_<;>simp only [Hf,sb]
  ·have:=g1 X Y;omega
  ·have:=g1 X' Y;omega
  ·have:=g1 X' Y';omega
  ·have:=g1 X Y';omega
 by_cases a4:tn Y Y' X<0∧tn Y Y' X'<0
 ·have n1:∀Z W:Pn,(Y'.2- Y.2) * (Z.1- W.1) + -(Y'.1- Y.1) * (Z.2- W.2) =tn Y Y' W- tn Y Y' Z:=fun Z W=>by simp only [tn,Q8];grind
  refine Gx (α:=Y'.2- Y.2) (β:= -(Y'.1- Y.1)) ?_ ?_ ?_ ?_<;>simp only [Hf,sb]
  ·have:=n1 X Y;omega
  ·have:=n1 X' Y;omega
  ·have:=n1 X' Y';omega
  ·have:=n1 X Y';omega
 have f1:=Mw Y Y' X
 have f2:=Mw Y Y' X'
 have f3:=Mw X X' Y
 have f4:=Mw X X' Y'
 have hd:=IQ X X' Y Y'
 have all0:tn X X' Y=0∧tn X X' Y'=0∧tn Y Y' X=0∧tn Y Y' X'=0:=by
  have k1:tn X X' Y=0→tn Y Y' X=0∧tn Y Y' X'=0:=fun e=>ZD h.x e h.nn1 a3 a4
  have k2:tn X X' Y'=0→tn Y' Y X=0∧tn Y' Y X'=0:=fun e=>ZD h.x e h.nn2 Om Om
  have k3:tn Y Y' X=0→tn X X' Y=0∧tn X X' Y'=0:=fun e=>ZD h.y e h.nn3 a1 a2
  have k4:tn Y Y' X'=0→tn X' X Y=0∧tn X' X Y'=0:=fun e=>ZD h.y e h.nn4 Om Om
  have hs':=fun e=>hs (K4.2 e)
  by_cases z1:tn X X' Y=0
  ·have:=k1 z1;have:=k3 this.1;omega
  ·by_cases z2:tn X X' Y'=0
   ·have:=k2 z2;have:=k3 Om;omega
   ·by_cases z3:tn Y Y' X=0
    ·have:=k3 z3;omega
    ·by_cases z4:tn Y Y' X'=0
     ·have:=k4 z4;omega
     ·exact absurd ⟨by omega,by omega⟩ hs'
 obtain ⟨m,n,hm,hn,e1,e2⟩ :=He h.x all0.1 h.nn1
 obtain ⟨m',n',hm',hn',e1',e2'⟩ :=He h.y all0.2.2.1 h.nn3
 obtain ⟨m'',n'',hm'',hn'',e1'',e2''⟩ :=He h.y all0.2.2.2 h.nn4
 have hne:X.1- Y.1≠0∨X.2- Y.2≠0:=by
  by_cases k:X.1- Y.1=0
  ·refine .inr fun k2=>h.nn1 ?_
   have:Y=X:=Prod.ext Om Om
   rw [this]
   exact wh X X'
  ·exact .inl k
 have hq:0< (X.1- Y.1) * (X.1- Y.1) + (X.2- Y.2) * (X.2- Y.2) :=by
  have s1:=kV (a:=X.1- Y.1) (b:=X.1- Y.1) rfl
  have s2:=kV (a:=X.2- Y.2) (b:=X.2- Y.2) rfl
  omega
 have neg:∀ {k j x y z:Int},k* (x- z) =j* (y- z)→j* (z- y) =k* (z- x) :=fun {k j x y z} e=>by
  have g1:j* (z- y) = -(j* (y- z)) :=by grind
  have g2:k* (z- x) = -(k* (x- z)) :=by grind
  omega
 have hb:0< (X.1- Y.1) * (X'.1- Y.1) + (X.2- Y.2) * (X'.2- Y.2) :=FJ hn hm e1.symm e2.symm hq
 refine Gx (α:=X.1- Y.1) (β:=X.2- Y.2) hq hb ?_ ?_
 ·exact FJ hn'' hm'' (neg e1'') (neg e2'') hb
 ·exact FJ hn' hm' (neg e1') (neg e2') hq
end Go.Proofs.YtpncbbcmoiiipaaGreat
