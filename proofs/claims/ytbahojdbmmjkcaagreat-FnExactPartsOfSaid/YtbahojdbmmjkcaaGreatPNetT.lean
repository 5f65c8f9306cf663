import Derived.Test.YtbahojdbmmjkcaaGreatPNetS
import Derived.Test.YtbahojdbmmjkcaaGreatPCmp
import Derived.MapKept
set_option linter.unusedVariables false
set_option linter.unusedSimpArgs false
namespace Go.Proofs.YtbahojdbmmjkcaaGreat
open Go Go.RowKit
variable {e:Nt} {i k:Nat} {l:List Nt} {s:Bool} {v:Int}
set_option maxRecDepth 100000
set_option maxHeartbeats 4000000
theorem jga (p q:Pn) (w:World) (hp:bd2 p) (hq:bd2 q) :Calls Tryz.prog 267 #[pV p,pV q] w fun e w'=>e= .returned (pV (p.1+q.1,p.2+q.2))∧Over w w':=by
 obtain ⟨⟨a1,a2⟩,a3,a4⟩ :=hp;obtain ⟨⟨b1,b2⟩,b3,b4⟩ :=hq
 refine jT (m:=16) (Tryz.func267) J J (lb J) ?_;refine S3 ?_;refine aX (fun b1=> ?_);refine N1 ?_;refine aX (fun b2=> ?_);refine N1 ?_;refine aL (fun b3=> ?_);refine N13 ?_;refine a9 (J0 J J (QN J J)) ?_;refine S4 ?_;refine jL J (qh (k:=2) J jj J J) ?_
 intro w' hs
 exact⟨rfl,hs.fin⟩
theorem Lp (p:Pn) (w:World) (hp:bd2 p) :Calls Tryz.prog 242 #[pV p, .int .i64 2] w fun e w'=>e= .returned (pV (2*p.1,2*p.2))∧Over w w':=by
 obtain ⟨⟨a1,a2⟩,a3,a4⟩ :=hp
 refine jT (m:=14) (Tryz.func242) J J (lb J) ?_;refine S3 ?_;refine aX (fun b1=> ?_);refine N1 ?_;refine aL (fun b2=> ?_);refine N11 ?_;refine a9 (J0 J J (QN J J)) ?_;refine S4 ?_;refine jL J (qh (k:=1) J jj J J) ?_
 intro w' hs
 exact⟨by rw [jha p.1,jha p.2],hs.fin⟩
theorem jbR (p:Pn) (w:World) (hp:wA p.1∧wA p.2) :Calls Tryz.prog 268 #[pV p] w fun e w'=>e= .returned (pV (-p.2,p.1))∧Over w w':=by
 obtain ⟨⟨a1,a2⟩,a3,a4⟩ :=hp
 refine jT (m:=9) (Tryz.func268) J J (lb J) ?_;refine S3 ?_;refine aX (fun b1=> ?_);refine N1 ?_;refine aL (fun b2=> ?_);refine N5 ?_;refine a9 (za J J Om Om) ?_;refine S2 ?_;refine a9 (J0 J J (QN J J)) ?_;refine S4 ?_;refine jL J (qh (k:=1) J jj J J) ?_
 intro w' hs
 exact⟨rfl,hs.fin⟩
def GV (p:Leg) :Pn:=if p.ay=p.b_y then(-(wN p),wC p) else(wC p,wN p)
def Oo (p q:Leg) :Leg:=if p.ay=p.b_y then z6 (Qe true q) else Qe true q
theorem Sw (p q:Leg) :Oy p q=kE (Oo p q) (GV p).1 (GV p).2:=by
 unfold Oy Oo GV
 split<;>rfl
theorem je6 {p:Leg} (h:qr p) :wA (GV p).1∧wA (GV p).2:=by
 obtain ⟨⟨a1,a2⟩,⟨a3,a4⟩,⟨b1,b2⟩,b3,b4⟩ :=h
 unfold GV wC wN
 split
 ·refine⟨⟨?_,?_⟩,?_,?_⟩ <;> (simp only;omega)
 ·refine⟨⟨?_,?_⟩,?_,?_⟩ <;> (simp only;omega)
theorem je0 {p q:Leg} (h:qr q) :wA (Oo p q).ax∧wA (Oo p q).ay∧wA (Oo p q).bx∧wA (Oo p q).b_y:=by
 obtain ⟨h1,h2,h3,h4⟩ :=Nm true h
 unfold Oo z6 wA at*
 split
 ·simp only;omega
 ·exact⟨h1,h2,h3,h4⟩
theorem jeh {l:Leg} (h:qr l) :bd2 (lA l)∧bd2 (lB l) :=⟨⟨h.1,h.2.1⟩,h.2.2.1,h.2.2.2⟩
theorem Ix :Qo s l k (k+1) =Qo s l k k:=by simp [Qo]
theorem EE (h:i≠k) (hu:Dq (Oo (nt l k).e (nt l i).e) (GV (nt l k).e).1 (GV (nt l k).e).2=true) :Qo s l k i+vU s (nt l i) =Qo s l k (i+1) :=by
 rw [Qo,if_neg h,Sw,kE,if_pos hu,jhU]
theorem Iw (h:i≠k) (hu:Dq (Oo (nt l k).e (nt l i).e) (GV (nt l k).e).1 (GV (nt l k).e).2=false) (hd:Wo (Oo (nt l k).e (nt l i).e) (GV (nt l k).e).1 (GV (nt l k).e).2=true) :Qo s l k i- vU s (nt l i) =Qo s l k (i+1) :=by
 rw [Qo,if_neg h,Sw,kE,hu,if_neg (by simp),if_pos hd,Int.mul_neg,jhU]
 omega
theorem Iy (h:i≠k) (hu:Dq (Oo (nt l k).e (nt l i).e) (GV (nt l k).e).1 (GV (nt l k).e).2=false) (hd:Wo (Oo (nt l k).e (nt l i).e) (GV (nt l k).e).1 (GV (nt l k).e).2=false) :Qo s l k i=Qo s l k (i+1) :=by
 rw [Qo,if_neg h,Sw,kE,hu,if_neg (by simp),hd,if_neg (by simp),Int.mul_zero,Int.add_zero]
theorem OJ (l:List Nt) (x:Option Addr×Nat) (k:Nat) (w:World) (hr: (Ib l x).P w) (hk:k<l.length) (hok:∀y∈l,qr y.e) (hl:l.length≤16384) (ha:∀t,aS t l≤16384) :
  Calls Tryz.prog 235 #[.slice x.1 l.length x.2, .int .i64 (k:Int)] w fun e w'=>e= .returned (.tuple #[.int .i64 (Qo false l k l.length), .int .i64 (Qo true l k l.length)])∧Over w w':=by
 have hpo:=hok _ (XY hk)
 obtain ⟨m1,m2⟩ :=je6 hpo
 obtain ⟨⟨a1,a2⟩,⟨a3,a4⟩,⟨b1',b2'⟩,b3',b4'⟩ :=id hpo
 obtain ⟨hp1,hp2⟩ :=jeh hpo
 obtain ⟨p,hp⟩ :∃p,p= (nt l k).e:=⟨_,rfl⟩
 refine jT (m:=132) (Tryz.func235) J J (lb J) ?_;refine S9 ?_;refine a9 (qj (j:=k) (fun w hs=>Qc hr hs.fin) J J J JJ hk) ?_;refine S1 ?_;refine a9 (jk J J Kp J (Zk [.int .i64 (nt l k).e.ax, .int .i64 (nt l k).e.ay, .int .i64 (nt l k).e.bx, .int .i64 (nt l k).e.b_y] 0 (fun w hs=>Qc hr hs.fin) hk Om (HZ J J J J))) ?_;refine S1 ?_;refine aL (fun b1=> ?_);refine N20 ?_;refine a9 (jJ Mo J J (fun w1 hs=>jga (lA (nt l k).e) (lB (nt l k).e) w1 hp1 hp2)) ?_;refine S1 ?_;refine aL (fun b2=> ?_);refine N3 ?_;refine Wu [] ([.cel b1 147 [.int .i64 (nt l k).e.ax, .int .i64 (nt l k).e.ay, .int .i64 (nt l k).e.bx, .int .i64 (nt l k).e.b_y], .cel b2 28 [.int .i64 (GV (nt l k).e).1, .int .i64 (GV (nt l k).e).2]]) (kK [0,1,4,5,7,8]) (fun L h_t31=> ?_) ?_
 ·refine S4 ?_;refine cZ (fun c1=> ?_) (fun c1=> ?_)
  ·refine S2 ?_;refine a9 (jJ wW J J (fun w1 hs=>jbR (wC (nt l k).e,wN (nt l k).e) w1 ⟨⟨by unfold wC;simp only;omega,by unfold wC;simp only;omega⟩,by unfold wN;simp only;omega,by unfold wN;simp only;omega⟩)) ?_;refine S3 ?_
   exact Jr h_t31 ⟨J,sz⟩ (fun _ h=>h.upto ⟨J,by rw [GV,if_pos c1],trivial⟩)
  ·refine S2 ?_
   exact Jr h_t31 ⟨J,sz⟩ (fun _ h=>h.upto ⟨J,by rw [GV,if_neg c1];rfl,trivial⟩)
 ·refine V14 ?_;refine J9 (X:=Nat) (fun i=>i≤l.length) (fun i=>l.length- i) (fun i=> [(9, .int .i64 (Qo false l k i)),(10, .int .i64 (Qo true l k i)),(11, .int .i64 (i:Int))]) (kK [0,1,4,5,7,8]) 0 (jgw _) ⟨J,sz⟩ ?_
  intro i hi L hL1
  refine v9 ?_
  have hb1:=UP (s:=false) (k:=k) (show i≤l.length from hi)
  have hb2:=UP (s:=true) (k:=k) (show i≤l.length from hi)
  have ha1:=ha false
  have ha2:=ha true
  refine S8 ?_;refine cZ (fun c2=> ?_) (fun c2=> ?_)
  ·have hlt:i<l.length:=Om
   have hqo:=hok _ (XY hlt)
   obtain ⟨q1,q2⟩ :=jeh hqo
   obtain ⟨d1,d2,d3,d4⟩ :=je0 (p:= (nt l k).e) hqo
   obtain ⟨⟨e1,e2⟩,⟨e3,e4⟩,⟨e5,e6⟩,e7,e8⟩ :=id hqo
   have hn1:=Zw (s:=false) hlt
   have hn2:=Zw (s:=true) hlt
   simp only [vU,if_true,jhr,if_false] at hn1 hn2
   refine S11 ?_;refine cZ (fun c3=> ?_) (fun c3=> ?_)
   ·refine S9 ?_
    exact JY hL1 (i+1) Om Om ⟨vi (by rw [show i=k by omega,Ix]),vi (by rw [show i=k by omega,Ix]),vi Om,sz⟩ (u9 J)
   ·have hik:i≠k:=Om
    refine S6 ?_;refine a9 (qj (j:=i) (fun w hs=>Qc hr hs.fin) J J J JJ hlt) ?_;refine S2 ?_;refine a9 (jk J J jj J (Zk [.int .i64 (nt l i).e.ax, .int .i64 (nt l i).e.ay] 0 (fun w hs=>Qc hr hs.fin) hlt Om (Z1 J J))) ?_;refine a9 (jJ Vw J J (fun w1 hs=>Lp (lA (nt l i).e) w1 q1)) ?_;refine S1 ?_;refine aL (fun b3=> ?_);refine N7 ?_;refine a9 (qj (j:=i) (fun w hs=>Qc hr hs.fin) J J J JJ hlt) ?_;refine S2 ?_;refine a9 (jk J J jj J (Zk [.int .i64 (nt l i).e.bx, .int .i64 (nt l i).e.b_y] 2 (fun w hs=>Qc hr hs.fin) hlt Om (Z1 J J))) ?_;refine a9 (jJ Vw J J (fun w1 hs=>Lp (lB (nt l i).e) w1 q2)) ?_;refine S1 ?_;refine aL (fun b4=> ?_);refine N3 ?_;refine Wu [] ([.cel b1 147 [.int .i64 (nt l k).e.ax, .int .i64 (nt l k).e.ay, .int .i64 (nt l k).e.bx, .int .i64 (nt l k).e.b_y], .cel b2 28 [.int .i64 (GV (nt l k).e).1, .int .i64 (GV (nt l k).e).2], .cel b3 28 [.int .i64 (Oo (nt l k).e (nt l i).e).ax, .int .i64 (Oo (nt l k).e (nt l i).e).ay], .cel b4 28 [.int .i64 (Oo (nt l k).e (nt l i).e).bx, .int .i64 (Oo (nt l k).e (nt l i).e).b_y]]) (kK [0,1,4,5,7,8,9,10,11,34,35,36,37,40,41,42,43,44,45,46,47,48,49,12,50,51,52,53,54,55,56,13]) (fun L h_t57=> ?_) ?_
    ·refine S4 ?_;refine cZ (fun c4=> ?_) (fun c4=> ?_)
     ·refine S3 ?_;refine a9 (jJ wW J J (fun w1 hs=>jbR (2* (nt l i).e.ax,2* (nt l i).e.ay) w1 ⟨⟨by simp only;omega,by simp only;omega⟩,by simp only;omega,by simp only;omega⟩)) ?_;refine S5 ?_;refine a9 (jJ wW J J (fun w1 hs=>jbR (2* (nt l i).e.bx,2* (nt l i).e.b_y) w1 ⟨⟨by simp only;omega,by simp only;omega⟩,by simp only;omega,by simp only;omega⟩)) ?_;refine S3 ?_
      exact Jr h_t57 ⟨J,sz⟩ (fun _ h=>h.upto ⟨J,J,by rw [Oo,if_pos c4];rfl,by rw [Oo,if_pos c4];rfl,trivial⟩)
     ·refine S2 ?_
      exact Jr h_t57 ⟨J,sz⟩ (fun _ h=>h.upto ⟨J,J,by rw [Oo,if_neg c4];rfl,by rw [Oo,if_neg c4];rfl,trivial⟩)
    ·refine V1 ?_;refine qn [(62, .bool (Dq (Oo (nt l k).e (nt l i).e) (GV (nt l k).e).1 (GV (nt l k).e).2))] (kK [0,1,4,5,7,8,9,10,11,34,35,36,37,40,41,42,43,44,45,46,47,48,49,12,50,51,52,53,54,55,56,13]) (fun L h_17=> ?_) ?_
     ·refine S7 ?_;refine cV 68 (fun g1=> ?_) (fun g1=> ?_)
      ·refine S12 ?_;refine cV 75 (fun g2=> ?_) (fun g2=> ?_)
       ·refine S7 ?_;refine o9 (jJ q7 J J (fun w h=>wu _ _ _ _ _ _ w d1.1 d1.2 d2.1 d2.2 d3.1 d3.2 d4.1 d4.2 m1.1 m1.2 m2.1 m2.2)) ?_;refine S5 ?_
        exact Jr h_17 ⟨vb (by simp [Dq, *]),sz⟩ (u9 J)
       ·refine S8 ?_
        exact Jr h_17 ⟨vb (by symm;simp [Dq];omega),sz⟩ (u9 J)
      ·refine S15 ?_
       exact Jr h_17 ⟨vb (by symm;simp [Dq];omega),sz⟩ (u9 J)
     ·refine v9 ?_;refine cZ (fun c5=> ?_) (fun c5=> ?_)
      ·refine S5 ?_;refine a9 (qj (j:=i) (fun w hs=>Qc hr hs.fin) J J J JJ hlt) ?_;refine S1 ?_;refine a9 (jl J J jt (ZY (i:=4) (fun w hs=>Qc hr hs.fin) hlt Om J)) ?_;refine S7 ?_;refine a9 (qj (j:=i) (fun w hs=>Qc hr hs.fin) J J J JJ hlt) ?_;refine S1 ?_;refine a9 (jl J J jt (ZY (i:=5) (fun w hs=>Qc hr hs.fin) hlt Om J)) ?_;refine S11 ?_
       exact JY hL1 (i+1) Om Om ⟨vi (EE (s:=false) hik c5),vi (EE (s:=true) hik c5),vi Om,sz⟩ (u9 J)
      ·refine qn [(96, .bool (Wo (Oo (nt l k).e (nt l i).e) (GV (nt l k).e).1 (GV (nt l k).e).2))] (kK [0,1,4,5,7,8,9,10,11,34,35,36,37,40,41,42,43,44,45,46,47,48,49,12,50,51,52,53,54,55,56,13,62]) (fun L h_20=> ?_) ?_
       ·refine S7 ?_;refine cV 102 (fun g3=> ?_) (fun g3=> ?_)
        ·refine S12 ?_;refine cV 109 (fun g4=> ?_) (fun g4=> ?_)
         ·refine S7 ?_;refine o9 (jJ q7 J J (fun w h=>wu _ _ _ _ _ _ w d1.1 d1.2 d2.1 d2.2 d3.1 d3.2 d4.1 d4.2 m1.1 m1.2 m2.1 m2.2)) ?_;refine S5 ?_
          exact Jr h_20 ⟨vb (by simp [Wo, *]),sz⟩ (u9 J)
         ·refine S8 ?_
          exact Jr h_20 ⟨vb (by symm;simp [Wo];omega),sz⟩ (u9 J)
        ·refine S15 ?_
         exact Jr h_20 ⟨vb (by symm;simp [Wo];omega),sz⟩ (u9 J)
       ·refine v9 ?_;refine cZ (fun c6=> ?_) (fun c6=> ?_)
        ·refine S5 ?_;refine a9 (qj (j:=i) (fun w hs=>Qc hr hs.fin) J J J JJ hlt) ?_;refine S1 ?_;refine a9 (jl J J jt (ZY (i:=4) (fun w hs=>Qc hr hs.fin) hlt Om J)) ?_;refine S7 ?_;refine a9 (qj (j:=i) (fun w hs=>Qc hr hs.fin) J J J JJ hlt) ?_;refine S1 ?_;refine a9 (jl J J jt (ZY (i:=5) (fun w hs=>Qc hr hs.fin) hlt Om J)) ?_;refine S11 ?_
         exact JY hL1 (i+1) Om Om ⟨vi (Iw (s:=false) hik c5 c6),vi (Iw (s:=true) hik c5 c6),vi Om,sz⟩ (u9 J)
        ·refine S9 ?_
         exact JY hL1 (i+1) Om Om ⟨vi (Iy (s:=false) hik c5 c6),vi (Iy (s:=true) hik c5 c6),vi Om,sz⟩ (u9 J)
  ·have hin:i=l.length:=Om
   refine S13 ?_;refine qo J (.tmp J) (.tmp J) ?_
   intro w' hs
   exact⟨by rw [hin],hs.fin⟩
def sdN (l:List Nt) (k:Nat) :Nt:= {nt l k with l1:=Qo false l k l.length+ (nt l k).one,l2:=Qo true l k l.length+ (nt l k).two}
def Wn (l:List Nt) (i:Nat) :List Nt:= (List.range l.length).map fun k=>if k<i then sdN l k else nt l k
theorem FL (l:List Nt) (i:Nat) : (Wn l i).length=l.length:=by simp [Wn]
theorem Tv (h:k<l.length) :nt (Wn l i) k=if k<i then sdN l k else nt l k:=by
 simp [nt,Wn,List.getD,List.getElem?_map,List.getElem?_range h]
theorem PB (h:k<l.length) : (nt (Wn l i) k).e= (nt l k).e∧(∀s,vU s (nt (Wn l i) k) =vU s (nt l k)) :=by
 rw [Tv h]
 split
 ·exact⟨rfl,fun s=>by cases s<;>rfl⟩
 ·exact⟨rfl,fun s=>rfl⟩
theorem ND (l:List Nt) :l= (List.range l.length).map (nt l) :=by
 refine jhH (by simp) fun k h1 h2=> ?_
 simp only [jhx,jhY]
 exact YB h1
theorem jbZ (l:List Nt) :Wn l 0=l:=by
 conv=>rhs;rw [ND l]
 simp [Wn]
theorem jbY (h:i<l.length) :Wn l (i+1) = (Wn l i).set i (sdN l i) :=by
 refine jhH (by simp [Wn]) fun k h1 h2=> ?_
 rw [List.getElem_set]
 simp only [Wn,jhx,jhY]
 by_cases e:i=k
 ·subst e;rw [if_pos Om,if_pos rfl]
 ·rw [if_neg e]
  by_cases c:k<i
  ·rw [if_pos c,if_pos Om]
  ·rw [if_neg c,if_neg Om]
theorem jb1 {α β:Type} (f:β→Int) (g:α→β) :∀l:List α,sm f (l.map g) =sm (fun x=>f (g x)) l
 | [] =>rfl
 | x::l=>by simp only [jgM,sm,jb1 f g l]
theorem jf7 (l:List Nt) (i:Nat) (t:Bool) :aS t (Wn l i) =aS t l:=by
 have e:∀m:List Nt,aS t m=sm (fun k=>zS (vU t (nt m k))) (List.range m.length) :=fun m=>by
  conv=>lhs;rw [ND m]
  unfold aS
  rw [jb1]
 rw [e,e l,FL]
 exact yg fun k hk=>by rw [(PB (jh9.1 hk)).2]
theorem FK {l:List Nt} {i k:Nat} (hk:k<l.length) (s:Bool) :∀j,j≤l.length→Qo s (Wn l i) k j=Qo s l k j
 | 0,_=>rfl
 | j+1,h=>by rw [Qo,Qo,FK hk s j Om,(PB (show j<l.length by omega)).1,(PB (show j<l.length by omega)).2,(PB hk).1]
theorem jfv (h:∀y∈l,qr y.e) :∀y∈Wn l i,qr y.e:=fun y hy=>by
 obtain ⟨k,hk,rfl⟩ :=jgO.1 hy
 have hk:=jh9.1 hk
 split
 ·exact(show qr (nt l k).e from h _ (XY hk))
 ·exact h _ (XY hk)
def ui (l:List Nt) :List Nt:=Wn l l.length
theorem jf8 (h:k<l.length) (he:nt l k=e) :qB (l.flatMap qi) (0+k*8+6) [.int .i64 v] = (l.set k {e with l1:=v}).flatMap qi:=by
 subst he
 exact WW qi kd (Fq h) (jU (nt l k).e++ [.int .i64 (nt l k).one, .int .i64 (nt l k).two]) [.int .i64 (nt l k).l1] [.int .i64 v] [.int .i64 (nt l k).l2] (by simp [qi]) (by simp [qi]) rfl (by simp [jU])
theorem jf9 (h:k<l.length) (he:nt l k=e) :qB (l.flatMap qi) (0+k*8+7) [.int .i64 v] = (l.set k {e with l2:=v}).flatMap qi:=by
 subst he
 exact WW qi kd (Fq h) (jU (nt l k).e++ [.int .i64 (nt l k).one, .int .i64 (nt l k).two, .int .i64 (nt l k).l1]) [.int .i64 (nt l k).l2] [.int .i64 v] [] (by simp [qi]) (by simp [qi]) rfl (by simp [jU])
theorem jfg (h:k<l.length) :nt (l.set k e) k=e:=by simp [nt,List.getD,h]
theorem D2 (l:List Nt) (x:Option Addr×Nat) (w:World) (hr: (Ib l x).P w) (hok:∀y∈l,qr y.e) (hl:l.length≤16384) (ha:∀t,aS t l≤16384) :
  Calls Tryz.prog 187 #[.slice x.1 l.length x.2] w fun e w'=>e= .returned (.tuple #[])∧Wrs (Ib l x).F w w'∧(JQ 0 262 8 l.length ((ui l).flatMap qi) x).P w':=by
 refine WO (m:=39) (FC x) (Ib l x) (hr) (fun b hb=>UL.1 hb) J (Tryz.func187) J J (lb J) ?_;refine S5 ?_;refine JN (X:=Nat) (fun i=>i≤l.length) (fun i=>l.length- i) (fun i=> [(2, .int .i64 (i:Int))]) (kK [0]) (fun i=> [JQ 0 262 8 l.length ((Wn l i).flatMap qi) x]) 0 (jgw _) ⟨J,sz⟩ (fun _ h=>by rw [jbZ];exact h) ?_
 intro i hi L hL1
 refine v9 ?_;refine r9 ?_
 obtain ⟨M,hM⟩ :∃M,M=Wn l i:=⟨_,rfl⟩
 have hMl:M.length=l.length:= (by rw [hM];exact FL l i)
 have hMa:∀t,aS t M≤16384:= (fun t=>by rw [hM,jf7];exact ha t)
 have hMo:∀y∈M,qr y.e:= (by rw [hM];exact jfv hok)
 rw [←hM]
 refine S8 ?_;refine cZ (fun c1=> ?_) (fun c1=> ?_)
 ·have hlt:i<l.length:=Om
  have hlM:i<M.length:=Om
  have hb1:Qo false M i l.length=Qo false l i l.length:= (by rw [hM];exact FK hlt false _ (jgx _))
  have hb2:Qo true M i l.length=Qo true l i l.length:= (by rw [hM];exact FK hlt true _ (jgx _))
  have hn:nt M i=nt l i:= (by rw [hM,Tv hlt,if_neg Om])
  have hd1:=UP (s:=false) (k:=i) (jgx l.length)
  have hd2:=UP (s:=true) (k:=i) (jgx l.length)
  have hc1:=Zw (s:=false) hlt
  have hc2:=Zw (s:=true) hlt
  have ha1:=ha false
  have ha2:=ha true
  simp only [vU,if_true,jhr,if_false] at hc1 hc2
  refine S8 ?_;refine a9 (jJ xY J J (fun w1 hs=>by have:=OJ M x i w1 (by have:= (hs.all 0 _ J).1;rw [←hMl] at this;exact this) hlM hMo Om hMa;rw [hMl,hb1,hb2] at this;exact this)) ?_;refine S13 ?_;refine a9 (qj (j:=i) (fun w hs=> (hs.all 0 _ J).1) J J J JJ hlt) ?_;refine S1 ?_;refine a9 (jl J J jt (ZY (i:=4) (v:= .int .i64 (nt l i).one) (fun w hs=> (hs.all 0 _ J).1) hlM Om (by rw [hn];rfl))) ?_;refine S1 ?_;refine a9 (qj (j:=i) (fun w hs=> (hs.all 0 _ J).1) J J J JJ hlt) ?_;refine S2 ?_;refine WE (k:=0) (vs:= [.int .i64 (Qo false l i l.length+ (nt l i).one)]) J J J J (by rfl) (by rfl) QI.szx J J (by simp) (by rw [VO qi 8 kd];simp only [jgD,jgY];omega) ?_;refine n9 ?_
  rw [jf8 hlM hn]
  have hlM2:i< (M.set i {nt l i with l1:=Qo false l i l.length+ (nt l i).one}).length:= (by rw [jhy];exact hlM)
  have hn2:=jfg (e:= {nt l i with l1:=Qo false l i l.length+ (nt l i).one}) hlM
  refine S7 ?_;refine a9 (qj (j:=i) (fun w hs=> (hs.all 0 _ J).1) J J J JJ hlt) ?_;refine S1 ?_;refine a9 (jl J J jt (ZY (i:=5) (v:= .int .i64 (nt l i).two) (fun w hs=> (hs.all 0 _ J).1) hlM2 Om (by rw [hn2];rfl))) ?_;refine S1 ?_;refine a9 (qj (j:=i) (fun w hs=> (hs.all 0 _ J).1) J J J JJ hlt) ?_;refine S2 ?_;refine WE (k:=0) (vs:= [.int .i64 (Qo true l i l.length+ (nt l i).two)]) J J J J (by rfl) (by rfl) QI.szx J J (by simp) (by rw [VO qi 8 kd,jhy];simp only [jgD,jgY];omega) ?_;refine n9 ?_
  rw [jf9 hlM2 hn2,List.set_set]
  refine S8 ?_
  exact j4 hL1 (i+1) Om Om ⟨vi Om,sz⟩ (fun _ h=>h.upto ⟨by rw [jbY hlt,←hM];rfl,trivial⟩)
 ·have hin:i=l.length:=Om
  refine S4 ?_;refine Q5 J ?_
  intro w' hs
  exact⟨rfl,hs.over.wrs.mono fun b hb=>UL.2 hb,by have:= (hs.all 0 _ rfl).1;rw [hM,hin] at this;exact this⟩
end Go.Proofs.YtbahojdbmmjkcaaGreat
namespace Go.Proofs.YtbahojdbmmjkcaaGreat
open Go Go.RowKit
variable {es:List Leg} {j:Nat} {r:Option Addr×Nat} {α:Type}
section
variable {w0:Bs} {Rs:List Res}
theorem rdG {f:α→List Value} {m T B q:Nat} {l:List α} {off i:Nat} {a:α} {v:Value} (hf:∀a,(f a).length=m) (hr:∀w,St w0 Rs w→(JQ B T m q (l.flatMap f) r).P w) (ha:l[j]? =some a) (he:off=j*m+i) (hv: (f a)[i]? =some v) :∀w,St w0 Rs w→w.cell? ⟨Vl r.1,off,none⟩ =some v:=fun w hs=>by
 refine zf (hr w hs) ?_
 have hi:= (List.getElem?_eq_some_iff.1 hv).1
 obtain ⟨hj,e⟩ :=List.getElem?_eq_some_iff.1 ha
 rw [he,xo f m hf l j i hj (by rw [hf] at hi;exact hi),e]
 exact hv
theorem jgk {f:α→List Value} {m T B q:Nat} {l:List α} {off:Nat} {a:α} (vs:List Value) (i:Nat) (hf:∀a,(f a).length=m) (hr:∀w,St w0 Rs w→(JQ B T m q (l.flatMap f) r).P w) (ha:l[j]? =some a) (he:off=j*m+i) (hv:∀q v,vs[q]? =some v→(f a)[i+q]? =some v) :∀w,St w0 Rs w→∀q v,vs[q]? =some v→w.cell? ⟨Vl r.1,off+q,none⟩ =some v:=fun w hs q v h=>
 rdG hf hr ha Om (hv q v h) w hs
end
theorem Fb {l:List Leg} (h:j<l.length) :l[j]? =some (lg l j) :=by rw [List.getElem?_eq_getElem h,VG h]
theorem Tt (B T s:Nat) (w:World) : (JQ B T s 0 [] (none,0)).P w:=World.ownsRow_nil _ _ _ _
theorem xm {rs:List jK} (h:JW rs=true) :Fine (Jx rs) :=⟨jbN h,Is rs rs.length,fun f=>NZ f rs rs.length⟩
structure Key (es:List Leg) (p:Leg) :Prop where
 ok:qr p
 ne:lA p≠lB p
 ord:¬wc (lB p) (lA p)
theorem Rj : (VF es).length≤es.length:=by
 have:=Wq (s:=false) es []
 rw [VF,jgF]
 simpa using this
theorem R9 (l:List Nt) : (ui l).length=l.length:=FL l _
theorem PC {l:List Nt} {k:Nat} (h:k<l.length) :nt (ui l) k=sdN l k:=by rw [ui,Tv h,if_pos h]
theorem Et (t:Bool) :aS t [] =0:=rfl
theorem yH (b1 o1:Nat) (A:Option Addr) (n c:Nat) (rs:List jK) (w:World) (hes:es=Jx rs) (hcell:w.cell? ⟨b1,o1,none⟩ =some (.slice A n c)) (hb1:b1<w.heap.size) (h:Rings w A n rs) (ht: (total rs:Int)≤1048577) :
  Calls Tryz.prog 52 #[.pointer (some ⟨b1,o1,none⟩)] w fun e w'=>∃x:Option Addr×Nat,e= .returned (.slice x.1 es.length x.2)∧Over w w'∧(JQ 0 147 4 es.length (es.flatMap jU) x).P w'∧(∀b,(JQ 0 147 4 es.length (es.flatMap jU) x).F b→w.heap.size≤b)∧(JQ 0 147 4 es.length (es.flatMap jU) x).B=0∧True:=by
 subst hes
 exact qJ ((ZG b1 o1 A n c rs w hcell hb1 h ht).mono fun e w' ⟨v,h1,_,h2,h3⟩ =>⟨v,h1,h2,h3⟩)
end Go.Proofs.YtbahojdbmmjkcaaGreat
namespace Go.Proofs.YtbahojdbmmjkcaaGreat
open Go Go.RowKit Go.MapKept
variable {G:List (Pn×Value)} {T:TypeId} {b j k:Nat} {p:Pn} {u v:Value} {w:World} {x y:Operand}
def VH:List (Pn×Value)→Nat→List MapEntry
 | [],_=> []
 | (p,v) ::l,i=>⟨pV p,v,i⟩ ::VH l (i+1)
def zU (G:List (Pn×Value)) :Obj:= .map (VH G 0).toArray G.length
def Res.mp (b:Nat) (G:List (Pn×Value)) :Res where
 F:= (· =b)
 P w:=w.heap[b]? =some (zU G)
 low _ h _ hc:=hc▸JZ h
 B:=0
 dep w w' h _ hb:= (hb b (JZ h) (.inr rfl)).trans h
def Kq (p:Pn) :List (Pn×Value)→Nat→Option (Nat×Value)
 | [],_=>none
 | (q,v) ::l,i=>if p=q then some (i,v) else Kq p l (i+1)
structure MapTy (P:Program) (T K E:TypeId) :Prop where
 map:P.underlying T=some (.map K E)
 chk:∀e p w,(Instr.checkKey e 10000 K (pV p)).run P w= .ok () w
 eq:∀p q w,(Op.equal K (pV p) (pV q)).run P w= .ok (p.1==q.1&&p.2==q.2) w
 now:∃d,P.underlying K=some d∧∀p q,Instr.sameNow d (pV p) (pV q) =none
 zero:∀w,(zeroValue E).run P w= .ok (.slice none 0 0) w
theorem jeC {q:Pn} : (p.1==q.1&&p.2==q.2) =decide (p=q) :=by
 rw [jhc]
 simp [Prod.ext_iff]
section
variable {P:Program} {T K E:TypeId} {w:World}
theorem I0 (H:MapTy P T K E) (p:Pn) :∀(G:List (Pn×Value)) (i:Nat),(Instr.findAsking K (pV p) (VH G i) i).run P w= .ok (Kq p G i) w
 | [],i=>by simp [Instr.findAsking,VH,Kq]
 | (q,v) ::l,i=>by
  have ih:=I0 H p l (i+1)
  simp only [Instr.findAsking,VH,Kq,Sem.run_bind,H.eq,Result.andThen_ok,jeC]
  by_cases h:p=q
  ·simp [h]
  ·simp [h,ih]
theorem I1 (H:MapTy P T K E) (p:Pn) (G:List (Pn×Value)) : (Instr.findKey K (pV p) (VH G 0)).run P w= .ok (Kq p G 0) w:=by
 obtain ⟨d,hd,hn⟩ :=H.now
 unfold Instr.findKey
 simp only [Sem.run_bind,run_underlying hd,Result.andThen_ok]
 cases G with
 | nil=>simp [VH,Instr.findNow,Kq]
 | cons a l=>
  obtain ⟨q,v⟩ :=a
  have:Instr.findNow d (pV p) (VH ((q,v) ::l) 0) 0=none:=by simp [VH,Instr.findNow,hn]
  rw [this]
  exact I0 H p _ 0
theorem H4:∀(G:List (Pn×Value)) (i j:Nat),(VH G i)[j]? = (G[j]?).map fun e=>⟨pV e.1,e.2,i+j⟩
 | [],_,_=>by simp [VH]
 | (p,v) ::l,i,0=>by simp [VH]
 | (p,v) ::l,i,j+1=>by
  simp only [VH,List.getElem?_cons_succ,H4 l (i+1) j]
  rw [show i+1+j=i+ (j+1) by omega]
theorem BH:∀(G:List (Pn×Value)) (i:Nat) (p:Pn) (v:Value),VH G i++ [⟨pV p,v,i+G.length⟩] =VH (G++ [(p,v)]) i
 | [],i,p,v=>by simp [VH]
 | (q,u) ::l,i,p,v=>by
  have:=BH l (i+1) p v
  simp only [VH,jg0,jgD]
  rw [←this,show i+1+l.length=i+ (l.length+1) by omega]
theorem LS {p:Pn} :∀ {G:List (Pn×Value)} {i j:Nat} {v:Value},Kq p G i=some (j,v)→i≤j∧G[j- i]? =some (p,v)
 | [],_,_,_,h=>by cases h
 | (q,u) ::l,i,j,v,h=>by
  unfold Kq at h
  split at h
  ·rename_i e
   injection h with h
   injection h with h1 h2
   subst h1 h2 e
   simp
  ·have:=LS h
   refine⟨by omega,?_⟩
   rw [show j- i= (j- (i+1)) +1 by omega]
   simpa using this.2
theorem jaE (p:Pn) : (Instr.keyThatStays (pV p) (pV p)).run P w= .ok (pV p) w:=by
 have hs:Instr.sameBits 10000 (pV p) (pV p) =true:=by
  show Instr.sameBits (9999+1) (pV p) (pV p) =true
  simp [Instr.sameBits,pV]
 simp [Instr.keyThatStays,hs]
def PX (p:Pn) (G:List (Pn×Value)) :List (Pn×Value) :=match Kq p G 0 with
 | some _=>G
 | none=>G++ [(p, .slice none 0 0)]
def CI (p:Pn) (G:List (Pn×Value)) :Nat:=match Kq p G 0 with
 | some x=>x.1
 | none=>G.length
def Oc (p:Pn) (G:List (Pn×Value)) :Value:=match Kq p G 0 with
 | some x=>x.2
 | none=> .slice none 0 0
theorem jal {o o':Obj} (h:w.heap[b]? =some o) : ({w with heap:=w.heap.setIfInBounds b o'} :World).heap[b]? =some o':=by
 have:=JZ h
 simp [Array.getElem?_setIfInBounds,this]
theorem CW (H:MapTy P T K E) (hb:w.heap[b]? =some (zU G)) (p:Pn) :
  (Instr.mapEntry T (.map (some b)) (pV p)).run P w= .ok (.tuple #[Oc p G, .int .i64 (CI p G:Nat)]) {w with heap:=w.heap.setIfInBounds b (zU (PX p G))} :=by
 have hb':w.heap[b]? =some (.map (VH G 0).toArray G.length) :=hb
 have hf: (Instr.findKey K (pV p) (VH G 0).toArray.toList).run P w= .ok (Kq p G 0) w:=by rw [jhw];exact I1 H p G
 unfold Oc CI PX
 cases hg:Kq p G 0 with
 | none=>
  rw [hg] at hf
  have e: (VH G 0).toArray.push ⟨pV p, .slice none 0 0,G.length⟩ = (VH (G++ [(p, .slice none 0 0)]) 0).toArray:=by
   rw [←BH,jgT]
   simp
  simp only [Instr.mapEntry,Sem.run_bind,run_underlying H.map,Result.andThen_ok,MapKept.run_getObj_map hb',H.chk,hf,H.zero,MapKept.run_setObj_map _ hb',e,Sem.run_pure,goInt]
  unfold zU
  rw [jgv]
  rfl
 | some x=>
  obtain ⟨j,v⟩ :=x
  rw [hg] at hf
  obtain ⟨_,hj⟩ :=LS hg
  rw [Nat.sub_zero] at hj
  have hj': (VH G 0).toArray[j]? =some ⟨pV p,v,j⟩ :=by
   rw [List.getElem?_toArray,H4,hj]
   simp
  have hsame: (VH G 0).toArray.modify j (fun e=> {e with key:=pV p}) = (VH G 0).toArray:=by
   apply Array.ext'
   rw [Array.toList_modify]
   refine List.ext_getElem? fun i=> ?_
   rw [List.getElem?_modify]
   by_cases hi:j=i
   ·subst hi
    rw [List.getElem?_toArray] at hj'
    simp [hj']
   ·simp [hi]
  simp only [Instr.mapEntry,Sem.run_bind,run_underlying H.map,Result.andThen_ok,MapKept.run_getObj_map hb',H.chk,hf,hj',jh6,Option.getD_some,jaE,hsame,MapKept.run_setObj_map _ hb',Sem.run_pure,goInt]
  rfl
theorem IA:∀(G:List (Pn×Value)) (i j:Nat),j<G.length→(VH G i).findIdx? (fun e=> ((e.born:Nat) :Int) == ((i+j:Nat) :Int)) =some j
 | [],_,_,h=>absurd h (by simp)
 | (p,v) ::l,i,0,_=>by simp [VH,List.findIdx?_cons]
 | (p,v) ::l,i,j+1,h=>by
  have ih:=IA l (i+1) j (by simpa using h)
  rw [show i+1+j=i+ (j+1) by omega] at ih
  have hb: (((i:Nat) :Int) == ((i+ (j+1) :Nat) :Int)) =false:=by rw [beq_eq_false_iff_ne];omega
  simp only [VH,List.findIdx?_cons,hb,ih]
  simp
theorem jaQ (h:G[j]? =some (p,u)) : (VH G 0).toArray.modify j (fun e=> {e with val:=v}) = (VH (G.set j (p,v)) 0).toArray:=by
 apply Array.ext'
 rw [Array.toList_modify]
 refine List.ext_getElem? fun i=> ?_
 have hj:= (List.getElem?_eq_some_iff.1 h).1
 rw [List.getElem?_modify,jhw,H4,H4,List.getElem?_set]
 by_cases hi:j=i
 ·subst hi
  obtain ⟨_,e⟩ :=List.getElem?_eq_some_iff.1 h
  simp [hj,e]
 ·simp [hi]
theorem run_store (hb:w.heap[b]? =some (zU G)) (h:G[j]? =some (p,u)) :
  (Instr.entryStore T (.map (some b)) (.int .i64 (j:Nat)) v).run P w= .ok () {w with heap:=w.heap.setIfInBounds b (zU (G.set j (p,v)))} :=by
 have hb':w.heap[b]? =some (.map (VH G 0).toArray G.length) :=hb
 have hj:= (List.getElem?_eq_some_iff.1 h).1
 have hidx: (VH G 0).toArray.findIdx? (fun e=> ((e.born:Nat) :Int) == ((j:Nat) :Int)) =some j:=by
  have:=IA G 0 j hj
  rw [jgT] at this
  simpa using this
 simp only [Instr.entryStore,Sem.run_bind,Sem.run_pure,Result.andThen_ok,MapKept.run_getObj_map hb',asInt,asIntOf,hidx,jaQ h,MapKept.run_setObj_map _ hb']
 unfold zU
 rw [jhy]
theorem jbU (H:MapTy P T K E) (hb:w.heap[b]? =some (zU G)) (p:Pn) :
  (Instr.lookup T (.map (some b)) (pV p) false).run P w= .ok (Oc p G) w:=by
 have hb':w.heap[b]? =some (.map (VH G 0).toArray G.length) :=hb
 have hf: (Instr.findKey K (pV p) (VH G 0).toArray.toList).run P w= .ok (Kq p G 0) w:=by rw [jhw];exact I1 H p G
 unfold Oc
 cases hg:Kq p G 0 with
 | none=>
  rw [hg] at hf
  simp [Instr.lookup,run_underlying H.map,MapKept.run_getObj_map hb',H.chk,hf,H.zero,Result.andThen]
 | some x=>
  rw [hg] at hf
  simp [Instr.lookup,run_underlying H.map,MapKept.run_getObj_map hb',H.chk,hf,Result.andThen]
end
section
variable {P:Program} {n:Nat} {env:List (Nat×Value)} {w0:Bs} {Rs:List Res} {o:Oper} {Q:Exit→Act→World→Prop} {K:Act→World→Prop}
theorem Tp {T d:Nat} (ho:o.op= .makeMap T none) (hd:o.dst=some d) (hn:d<n) (h:∀b,At n ((d, .map (some b)) ::env) w0 (Rs++ [.mp b []]) K) :At n env w0 Rs (fun a w=>o.wp P a w K Q) :=fun a w hF hs=>by
 have: (execOp a.eval o).run P w= .ok (.value (.map (some w.heap.size))) (w.alloc (.map #[] 0)) :=by
  unfold execOp
  simp only [ho]
  simp [Instr.makeMap]
 show o.upon P a K Q ((execOp a.eval o).run P w)
 rw [this,Oper.upon_value,hd]
 exact h _ _ _ (hF.put hn _) (hs.add (Over.alloc _ _) (by show(w.alloc (.map #[] 0)).heap[w.heap.size]? =some (.map #[] 0);exact(MapKept.heap_alloc w _).1) (fun b hb=>Nat.le_of_eq hb.symm) ⟨jgw _,fun _ _=>jgw _⟩)
theorem ja6 {G':List (Pn×Value)} (hs:St w0 Rs w) (hk:Rs[k]? =some (.mp b G)) :St w0 (Rs.set k (.mp b G')) {w with heap:=w.heap.setIfInBounds b (zU G')} :=by
 have hh:w.heap[b]? =some (zU G) := (hs.all k _ hk).1
 have hlow:= (hs.all k _ hk).2.1 b rfl
 have hne:∀c,c≠b→({w with heap:=w.heap.setIfInBounds b (zU G')} :World).heap[c]? =w.heap[c]? :=fun c hc=>by simp [Array.getElem?_setIfInBounds,Ne.symm hc]
 refine hs.upd hk ⟨hs.over.os,hs.over.tape,hs.over.output,by simpa using hs.over.size,fun c hc hx=> ?_⟩ (by simp) (fun c _ h=>hne c h) (jal hh) (fun c hc=> .inl hc) J
 have:c≠b:=fun e=>by
  subst e
  rcases hlow with h | h
  ·have h:w0.N≤c:=h
   omega
  ·exact hx h
 rw [hne c this]
 exact hs.over.block c hc hx
theorem RN {Kt E:TypeId} {d:Nat} (H:MapTy P T Kt E) (p:Pn) (ho:o.op= .mapEntry T x y) (hx:ev env x=some (.map (some b))) (hy:ev env y=some (pV p)) (hk:Rs[k]? =some (.mp b G)) (hd:o.dst=some d) (hn:d<n) (h:At n ((d, .tuple #[Oc p G, .int .i64 (CI p G:Nat)]) ::env) w0 (Rs.set k (.mp b (PX p G))) K) :At n env w0 Rs (fun a w=>o.wp P a w K Q) :=fun a w hF hs=>by
 have hh:w.heap[b]? =some (zU G) := (hs.all k _ hk).1
 have hrun: (execOp a.eval o).run P w= .ok (.value (.tuple #[Oc p G, .int .i64 (CI p G:Nat)])) {w with heap:=w.heap.setIfInBounds b (zU (PX p G))} :=by
  unfold execOp
  simp only [ho,hF.ev hx,hF.ev hy,Sem.run_bind,CW H hh p,Result.andThen_ok,Sem.run_pure]
 show o.upon P a K Q ((execOp a.eval o).run P w)
 rw [hrun,Oper.upon_value,hd]
 exact h _ _ (hF.put hn _) (ja6 hs hk)
theorem OT {z:Operand} (ho:o.op= .entryStore T x y z) (hd:o.dst=none) (hx:ev env x=some (.map (some b))) (hy:ev env y=some (.int .i64 (j:Nat))) (hz:ev env z=some v) (hk:Rs[k]? =some (.mp b G)) (hg:G[j]? =some (p,u)) (h:At n env w0 (Rs.set k (.mp b (G.set j (p,v)))) K) :At n env w0 Rs (fun a w=>o.wp P a w K Q) :=fun a w hF hs=>by
 have hh:w.heap[b]? =some (zU G) := (hs.all k _ hk).1
 have hrun: (execOp a.eval o).run P w= .ok .skip {w with heap:=w.heap.setIfInBounds b (zU (G.set j (p,v)))} :=by
  unfold execOp
  simp only [ho,hF.ev hx,hF.ev hy,hF.ev hz,Sem.run_bind,run_store hh hg,Result.andThen_ok,Sem.run_pure]
 show o.upon P a K Q ((execOp a.eval o).run P w)
 rw [hrun,Oper.upon_skip,hd]
 exact h _ _ hF (ja6 hs hk)
theorem CO {Kt E:TypeId} (H:MapTy P T Kt E) (p:Pn) (hk:Rs[k]? =some (.mp b G)) (ho:o.op= .lookup T x y false) (hx:ev env x=some (.map (some b))) (hy:ev env y=some (pV p)) :Qt P o n env w0 Rs (Oc p G) :=
 QY fun a w hF hs=>by
  have hh:w.heap[b]? =some (zU G) := (hs.all k _ hk).1
  unfold execOp
  simp only [ho,hF.ev hx,hF.ev hy,Sem.run_bind,jbU H hh p,Result.andThen_ok,Sem.run_pure]
end
theorem jem:MapTy Tryz.prog 165 28 166 where
 map:=by kernel_rfl
 chk:=fun e p w=>by kernel_rfl
 eq:=fun p q w=>by
  show(Op.equalIn (9999+1) 28 (.agg #[.int .i64 p.1, .int .i64 p.2]) (.agg #[.int .i64 q.1, .int .i64 q.2])).run Tryz.prog w=_
  have hp:Tryz.prog.stoodInHeld 28=false:=by kernel_rfl
  rw [run_equalIn_agg w 9999 28 _ _ Kr hp]
  simp only [Program.fieldsOf,Tryz.underlying28]
  cases h1: (p.1==q.1) <;>cases h2: (p.2==q.2)
  all_goals
   simp only [beq_iff_eq,beq_eq_false_iff_ne] at h1 h2
   simp [Op.eqFields,go_sem, *]
 now:=⟨_,Tryz.underlying28,fun p q=>rfl⟩
 zero:=fun w=>by kernel_rfl
end Go.Proofs.YtbahojdbmmjkcaaGreat
