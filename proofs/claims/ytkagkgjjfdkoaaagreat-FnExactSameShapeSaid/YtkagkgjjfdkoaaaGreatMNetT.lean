import Derived.Test.YtkagkgjjfdkoaaaGreatMNetI
import Derived.Test.YtkagkgjjfdkoaaaGreatMCross
set_option linter.unusedVariables false
set_option linter.unusedSimpArgs false
namespace Go.Proofs.YtkagkgjjfdkoaaaGreat
open Go Go.RowKit
set_option maxRecDepth 100000
set_option maxHeartbeats 4000000
theorem jd7 (p q:Pn) (w:World) (hp:bd2 p) (hq:bd2 q) :Calls Tryz.prog 144 #[pV p,pV q] w fun e w'=>e= .returned (pV (p.1+q.1,p.2+q.2))∧Over w w':=by
 obtain ⟨⟨a1,a2⟩,a3,a4⟩ :=hp;obtain ⟨⟨b1,b2⟩,b3,b4⟩ :=hq
 refine jU (m:=16) (Tryz.func144) J J (lb J) ?_;refine S3 ?_;refine aX (fun b1=> ?_);refine N1 ?_;refine aX (fun b2=> ?_);refine N1 ?_;refine aL (fun b3=> ?_);refine N13 ?_;refine a9 (JV J J (kX J J)) ?_;refine S4 ?_;refine jL J (J3 (k:=2) J jl J J) ?_
 intro w' hs
 exact⟨rfl,hs.fin⟩
theorem Nv (p:Pn) (w:World) (hp:bd2 p) :Calls Tryz.prog 146 #[pV p, .int .i64 2] w fun e w'=>e= .returned (pV (2*p.1,2*p.2))∧Over w w':=by
 obtain ⟨⟨a1,a2⟩,a3,a4⟩ :=hp
 refine jU (m:=14) (Tryz.func146) J J (lb J) ?_;refine S3 ?_;refine aX (fun b1=> ?_);refine N1 ?_;refine aL (fun b2=> ?_);refine N11 ?_;refine a9 (JV J J (kX J J)) ?_;refine S4 ?_;refine jL J (J3 (k:=1) J jl J J) ?_
 intro w' hs
 exact⟨by rw [jfn p.1,jfn p.2],hs.fin⟩
theorem jan (p:Pn) (w:World) (hp:Ym p.1∧Ym p.2) :Calls Tryz.prog 145 #[pV p] w fun e w'=>e= .returned (pV (-p.2,p.1))∧Over w w':=by
 obtain ⟨⟨a1,a2⟩,a3,a4⟩ :=hp
 refine jU (m:=9) (Tryz.func145) J J (lb J) ?_;refine S3 ?_;refine aX (fun b1=> ?_);refine N1 ?_;refine aL (fun b2=> ?_);refine N5 ?_;refine a9 (YT J J (by omega) (by omega)) ?_;refine S2 ?_;refine a9 (JV J J (kX J J)) ?_;refine S4 ?_;refine jL J (J3 (k:=1) J jl J J) ?_
 intro w' hs
 exact⟨rfl,hs.fin⟩
def GN (p:Leg) :Pn:=if p.ay=p.b_y then(-(w8 p),wP p) else(wP p,w8 p)
def M3 (p q:Leg) :Leg:=if p.ay=p.b_y then zQ (vt true q) else vt true q
theorem RK (p q:Leg) :M9 p q=Ko (M3 p q) (GN p).1 (GN p).2:=by
 unfold M9 M3 GN
 split<;>rfl
theorem jdm {p:Leg} (h:qO p) :Ym (GN p).1∧Ym (GN p).2:=by
 obtain ⟨⟨a1,a2⟩,⟨a3,a4⟩,⟨b1,b2⟩,b3,b4⟩ :=h
 unfold GN wP w8
 split
 ·refine⟨⟨?_,?_⟩,?_,?_⟩ <;> (simp only;omega)
 ·refine⟨⟨?_,?_⟩,?_,?_⟩ <;> (simp only;omega)
theorem jdg {p q:Leg} (h:qO q) :Ym (M3 p q).ax∧Ym (M3 p q).ay∧Ym (M3 p q).bx∧Ym (M3 p q).b_y:=by
 obtain ⟨h1,h2,h3,h4⟩ :=Tq true h
 unfold M3 zQ Ym at*
 split
 ·simp only;omega
 ·exact⟨h1,h2,h3,h4⟩
theorem jcA {l:Leg} (h:qO l) :bd2 (lA l)∧bd2 (lB l) :=⟨⟨h.1,h.2.1⟩,h.2.2.1,h.2.2.2⟩
theorem FJ {s:Bool} {l:List Nt} {k:Nat} :Qp s l k (k+1) =Qp s l k k:=by simp [Qp]
theorem Cu {s:Bool} {l:List Nt} {k i:Nat} (h:i≠k) (hu:Cc (M3 (nt l k).e (nt l i).e) (GN (nt l k).e).1 (GN (nt l k).e).2=true) :Qp s l k i+v6 s (nt l i) =Qp s l k (i+1) :=by
 rw [Qp,if_neg h,RK,Ko,if_pos hu,jf9]
theorem FI {s:Bool} {l:List Nt} {k i:Nat} (h:i≠k) (hu:Cc (M3 (nt l k).e (nt l i).e) (GN (nt l k).e).1 (GN (nt l k).e).2=false) (hd:y8 (M3 (nt l k).e (nt l i).e) (GN (nt l k).e).1 (GN (nt l k).e).2=true) :Qp s l k i- v6 s (nt l i) =Qp s l k (i+1) :=by
 rw [Qp,if_neg h,RK,Ko,hu,if_neg (by simp),if_pos hd,Int.mul_neg,jf9]
 omega
theorem FK {s:Bool} {l:List Nt} {k i:Nat} (h:i≠k) (hu:Cc (M3 (nt l k).e (nt l i).e) (GN (nt l k).e).1 (GN (nt l k).e).2=false) (hd:y8 (M3 (nt l k).e (nt l i).e) (GN (nt l k).e).1 (GN (nt l k).e).2=false) :Qp s l k i=Qp s l k (i+1) :=by
 rw [Qp,if_neg h,RK,Ko,hu,if_neg (by simp),hd,if_neg (by simp),Int.mul_zero,Int.add_zero]
theorem Ol (l:List Nt) (x:Option Addr×Nat) (k:Nat) (w:World) (hr: (Fr l x).P w) (hk:k<l.length) (hok:∀y∈l,qO y.e) (hl:l.length≤16384) (ha:∀t,aS t l≤16384) :
  Calls Tryz.prog 100 #[.slice x.1 l.length x.2, .int .i64 (k:Int)] w fun e w'=>e= .returned (.tuple #[.int .i64 (Qp false l k l.length), .int .i64 (Qp true l k l.length)])∧Over w w':=by
 have hpo:=hok _ (XU hk)
 obtain ⟨m1,m2⟩ :=jdm hpo
 obtain ⟨⟨a1,a2⟩,⟨a3,a4⟩,⟨b1',b2'⟩,b3',b4'⟩ :=id hpo
 obtain ⟨hp1,hp2⟩ :=jcA hpo
 obtain ⟨p,hp⟩ :∃p,p= (nt l k).e:=⟨_,rfl⟩
 refine jU (m:=132) (Tryz.func100) J J (lb J) ?_;refine S9 ?_;refine a9 (qx (j:=k) (fun w hs=>q5 hr hs.fin) J J J Jz hk) ?_;refine S1 ?_;refine a9 (jj J J Kq J (z7 [.int .i64 (nt l k).e.ax, .int .i64 (nt l k).e.ay, .int .i64 (nt l k).e.bx, .int .i64 (nt l k).e.b_y] 0 (fun w hs=>q5 hr hs.fin) hk (by omega) (HM J J J J))) ?_;refine S1 ?_;refine aL (fun b1=> ?_);refine N20 ?_;refine a9 (jH L3 J J (fun w1 hs=>jd7 (lA (nt l k).e) (lB (nt l k).e) w1 hp1 hp2)) ?_;refine S1 ?_;refine aL (fun b2=> ?_);refine N3 ?_;refine wW [] ([.cel b1 118 [.int .i64 (nt l k).e.ax, .int .i64 (nt l k).e.ay, .int .i64 (nt l k).e.bx, .int .i64 (nt l k).e.b_y], .cel b2 54 [.int .i64 (GN (nt l k).e).1, .int .i64 (GN (nt l k).e).2]]) (kK [0,1,4,5,7,8]) (fun L h_t31=> ?_) ?_
 ·refine S4 ?_;refine cZ (fun c1=> ?_) (fun c1=> ?_)
  ·refine S2 ?_;refine a9 (jH Wg J J (fun w1 hs=>jan (wP (nt l k).e,w8 (nt l k).e) w1 ⟨⟨by unfold wP;simp only;omega,by unfold wP;simp only;omega⟩,by unfold w8;simp only;omega,by unfold w8;simp only;omega⟩)) ?_;refine S3 ?_
   exact Jb h_t31 ⟨J,sz⟩ (fun _ h=>h.upto ⟨J,by rw [GN,if_pos c1],trivial⟩)
  ·refine S2 ?_
   exact Jb h_t31 ⟨J,sz⟩ (fun _ h=>h.upto ⟨J,by rw [GN,if_neg c1];rfl,trivial⟩)
 ·refine V14 ?_;refine qi (X:=Nat) (fun i=>i≤l.length) (fun i=>l.length- i) (fun i=> [(9, .int .i64 (Qp false l k i)),(10, .int .i64 (Qp true l k i)),(11, .int .i64 (i:Int))]) (kK [0,1,4,5,7,8]) 0 (jeE _) ⟨J,sz⟩ ?_
  intro i hi L hL1
  refine v9 ?_
  have hb1:=Uz (s:=false) (k:=k) (show i≤l.length from hi)
  have hb2:=Uz (s:=true) (k:=k) (show i≤l.length from hi)
  have ha1:=ha false
  have ha2:=ha true
  refine S8 ?_;refine cZ (fun c2=> ?_) (fun c2=> ?_)
  ·have hlt:i<l.length:= (by omega)
   have hqo:=hok _ (XU hlt)
   obtain ⟨q1,q2⟩ :=jcA hqo
   obtain ⟨d1,d2,d3,d4⟩ :=jdg (p:= (nt l k).e) hqo
   obtain ⟨⟨e1,e2⟩,⟨e3,e4⟩,⟨e5,e6⟩,e7,e8⟩ :=id hqo
   have hn1:=Zi (s:=false) hlt
   have hn2:=Zi (s:=true) hlt
   simp only [v6,if_true,jfC,if_false] at hn1 hn2
   refine S11 ?_;refine cZ (fun c3=> ?_) (fun c3=> ?_)
   ·refine S9 ?_
    exact J8 hL1 (i+1) (by omega) (by omega) ⟨vi (by rw [show i=k by omega,FJ]),vi (by rw [show i=k by omega,FJ]),vi (by omega),sz⟩ (u9 J)
   ·have hik:i≠k:= (by omega)
    refine S6 ?_;refine a9 (qx (j:=i) (fun w hs=>q5 hr hs.fin) J J J Jz hlt) ?_;refine S2 ?_;refine a9 (jj J J jl J (z7 [.int .i64 (nt l i).e.ax, .int .i64 (nt l i).e.ay] 0 (fun w hs=>q5 hr hs.fin) hlt (by omega) (ZS J J))) ?_;refine a9 (jH UP J J (fun w1 hs=>Nv (lA (nt l i).e) w1 q1)) ?_;refine S1 ?_;refine aL (fun b3=> ?_);refine N7 ?_;refine a9 (qx (j:=i) (fun w hs=>q5 hr hs.fin) J J J Jz hlt) ?_;refine S2 ?_;refine a9 (jj J J jl J (z7 [.int .i64 (nt l i).e.bx, .int .i64 (nt l i).e.b_y] 2 (fun w hs=>q5 hr hs.fin) hlt (by omega) (ZS J J))) ?_;refine a9 (jH UP J J (fun w1 hs=>Nv (lB (nt l i).e) w1 q2)) ?_;refine S1 ?_;refine aL (fun b4=> ?_);refine N3 ?_;refine wW [] ([.cel b1 118 [.int .i64 (nt l k).e.ax, .int .i64 (nt l k).e.ay, .int .i64 (nt l k).e.bx, .int .i64 (nt l k).e.b_y], .cel b2 54 [.int .i64 (GN (nt l k).e).1, .int .i64 (GN (nt l k).e).2], .cel b3 54 [.int .i64 (M3 (nt l k).e (nt l i).e).ax, .int .i64 (M3 (nt l k).e (nt l i).e).ay], .cel b4 54 [.int .i64 (M3 (nt l k).e (nt l i).e).bx, .int .i64 (M3 (nt l k).e (nt l i).e).b_y]]) (kK [0,1,4,5,7,8,9,10,11,34,35,36,37,40,41,42,43,44,45,46,47,48,49,12,50,51,52,53,54,55,56,13]) (fun L h_t57=> ?_) ?_
    ·refine S4 ?_;refine cZ (fun c4=> ?_) (fun c4=> ?_)
     ·refine S3 ?_;refine a9 (jH Wg J J (fun w1 hs=>jan (2* (nt l i).e.ax,2* (nt l i).e.ay) w1 ⟨⟨by simp only;omega,by simp only;omega⟩,by simp only;omega,by simp only;omega⟩)) ?_;refine S5 ?_;refine a9 (jH Wg J J (fun w1 hs=>jan (2* (nt l i).e.bx,2* (nt l i).e.b_y) w1 ⟨⟨by simp only;omega,by simp only;omega⟩,by simp only;omega,by simp only;omega⟩)) ?_;refine S3 ?_
      exact Jb h_t57 ⟨J,sz⟩ (fun _ h=>h.upto ⟨J,J,by rw [M3,if_pos c4];rfl,by rw [M3,if_pos c4];rfl,trivial⟩)
     ·refine S2 ?_
      exact Jb h_t57 ⟨J,sz⟩ (fun _ h=>h.upto ⟨J,J,by rw [M3,if_neg c4];rfl,by rw [M3,if_neg c4];rfl,trivial⟩)
    ·refine V1 ?_;refine qd [(62, .bool (Cc (M3 (nt l k).e (nt l i).e) (GN (nt l k).e).1 (GN (nt l k).e).2))] (kK [0,1,4,5,7,8,9,10,11,34,35,36,37,40,41,42,43,44,45,46,47,48,49,12,50,51,52,53,54,55,56,13]) (fun L h_17=> ?_) ?_
     ·refine S7 ?_;refine cV 68 (fun g1=> ?_) (fun g1=> ?_)
      ·refine S12 ?_;refine cV 75 (fun g2=> ?_) (fun g2=> ?_)
       ·refine S7 ?_;refine o9 (jH Qi J J (fun w h=>Ub _ _ _ _ _ _ w d1.1 d1.2 d2.1 d2.2 d3.1 d3.2 d4.1 d4.2 m1.1 m1.2 m2.1 m2.2)) ?_;refine S5 ?_
        exact Jb h_17 ⟨vb (by simp [Cc, *]),sz⟩ (u9 J)
       ·refine S8 ?_
        exact Jb h_17 ⟨vb (by symm;simp [Cc];omega),sz⟩ (u9 J)
      ·refine S15 ?_
       exact Jb h_17 ⟨vb (by symm;simp [Cc];omega),sz⟩ (u9 J)
     ·refine v9 ?_;refine cZ (fun c5=> ?_) (fun c5=> ?_)
      ·refine S5 ?_;refine a9 (qx (j:=i) (fun w hs=>q5 hr hs.fin) J J J Jz hlt) ?_;refine S1 ?_;refine a9 (jr J J jz (ZL (i:=4) (fun w hs=>q5 hr hs.fin) hlt (by omega) J)) ?_;refine S7 ?_;refine a9 (qx (j:=i) (fun w hs=>q5 hr hs.fin) J J J Jz hlt) ?_;refine S1 ?_;refine a9 (jr J J jz (ZL (i:=5) (fun w hs=>q5 hr hs.fin) hlt (by omega) J)) ?_;refine S11 ?_
       exact J8 hL1 (i+1) (by omega) (by omega) ⟨vi (Cu (s:=false) hik c5),vi (Cu (s:=true) hik c5),vi (by omega),sz⟩ (u9 J)
      ·refine qd [(96, .bool (y8 (M3 (nt l k).e (nt l i).e) (GN (nt l k).e).1 (GN (nt l k).e).2))] (kK [0,1,4,5,7,8,9,10,11,34,35,36,37,40,41,42,43,44,45,46,47,48,49,12,50,51,52,53,54,55,56,13,62]) (fun L h_20=> ?_) ?_
       ·refine S7 ?_;refine cV 102 (fun g3=> ?_) (fun g3=> ?_)
        ·refine S12 ?_;refine cV 109 (fun g4=> ?_) (fun g4=> ?_)
         ·refine S7 ?_;refine o9 (jH Qi J J (fun w h=>Ub _ _ _ _ _ _ w d1.1 d1.2 d2.1 d2.2 d3.1 d3.2 d4.1 d4.2 m1.1 m1.2 m2.1 m2.2)) ?_;refine S5 ?_
          exact Jb h_20 ⟨vb (by simp [y8, *]),sz⟩ (u9 J)
         ·refine S8 ?_
          exact Jb h_20 ⟨vb (by symm;simp [y8];omega),sz⟩ (u9 J)
        ·refine S15 ?_
         exact Jb h_20 ⟨vb (by symm;simp [y8];omega),sz⟩ (u9 J)
       ·refine v9 ?_;refine cZ (fun c6=> ?_) (fun c6=> ?_)
        ·refine S5 ?_;refine a9 (qx (j:=i) (fun w hs=>q5 hr hs.fin) J J J Jz hlt) ?_;refine S1 ?_;refine a9 (jr J J jz (ZL (i:=4) (fun w hs=>q5 hr hs.fin) hlt (by omega) J)) ?_;refine S7 ?_;refine a9 (qx (j:=i) (fun w hs=>q5 hr hs.fin) J J J Jz hlt) ?_;refine S1 ?_;refine a9 (jr J J jz (ZL (i:=5) (fun w hs=>q5 hr hs.fin) hlt (by omega) J)) ?_;refine S11 ?_
         exact J8 hL1 (i+1) (by omega) (by omega) ⟨vi (FI (s:=false) hik c5 c6),vi (FI (s:=true) hik c5 c6),vi (by omega),sz⟩ (u9 J)
        ·refine S9 ?_
         exact J8 hL1 (i+1) (by omega) (by omega) ⟨vi (FK (s:=false) hik c5 c6),vi (FK (s:=true) hik c5 c6),vi (by omega),sz⟩ (u9 J)
  ·have hin:i=l.length:= (by omega)
   refine S13 ?_;refine J6 J (.tmp J) (.tmp J) ?_
   intro w' hs
   exact⟨by rw [hin],hs.fin⟩
def sdN (l:List Nt) (k:Nat) :Nt:= {nt l k with l1:=Qp false l k l.length+ (nt l k).one,l2:=Qp true l k l.length+ (nt l k).two}
def Wv (l:List Nt) (i:Nat) :List Nt:= (List.range l.length).map fun k=>if k<i then sdN l k else nt l k
theorem D2 (l:List Nt) (i:Nat) : (Wv l i).length=l.length:=by simp [Wv]
theorem SC {l:List Nt} {i k:Nat} (h:k<l.length) :nt (Wv l i) k=if k<i then sdN l k else nt l k:=by
 simp [nt,Wv,List.getD,List.getElem?_map,List.getElem?_range h]
theorem Ni {l:List Nt} {i k:Nat} (h:k<l.length) : (nt (Wv l i) k).e= (nt l k).e∧(∀s,v6 s (nt (Wv l i) k) =v6 s (nt l k)) :=by
 rw [SC h]
 split
 ·exact⟨rfl,fun s=>by cases s<;>rfl⟩
 ·exact⟨rfl,fun s=>rfl⟩
theorem TH (l:List Nt) :l= (List.range l.length).map (nt l) :=by
 refine jfR (by simp) fun k h1 h2=> ?_
 simp only [jfK,jgb]
 exact Yk h1
theorem jav (l:List Nt) :Wv l 0=l:=by
 conv=>rhs;rw [TH l]
 simp [Wv]
theorem jau {l:List Nt} {i:Nat} (h:i<l.length) :Wv l (i+1) = (Wv l i).set i (sdN l i) :=by
 refine jfR (by simp [Wv]) fun k h1 h2=> ?_
 rw [List.getElem_set]
 simp only [Wv,jfK,jgb]
 by_cases e:i=k
 ·subst e;rw [if_pos (by omega),if_pos rfl]
 ·rw [if_neg e]
  by_cases c:k<i
  ·rw [if_pos c,if_pos (by omega)]
  ·rw [if_neg c,if_neg (by omega)]
theorem jay {α β:Type} (f:β→Int) (g:α→β) :∀l:List α,sm f (l.map g) =sm (fun x=>f (g x)) l
 | [] =>rfl
 | x::l=>by simp only [jeZ,sm,jay f g l]
theorem jd4 (l:List Nt) (i:Nat) (t:Bool) :aS t (Wv l i) =aS t l:=by
 have e:∀m:List Nt,aS t m=sm (fun k=>zK (v6 t (nt m k))) (List.range m.length) :=fun m=>by
  conv=>lhs;rw [TH m]
  unfold aS
  rw [jay]
 rw [e,e l,D2]
 exact U2 fun k hk=>by rw [(Ni (jgi.1 hk)).2]
theorem D1 {l:List Nt} {i k:Nat} (hk:k<l.length) (s:Bool) :∀j,j≤l.length→Qp s (Wv l i) k j=Qp s l k j
 | 0,_=>rfl
 | j+1,h=>by rw [Qp,Qp,D1 hk s j (by omega),(Ni (show j<l.length by omega)).1,(Ni (show j<l.length by omega)).2,(Ni hk).1]
theorem jdF {l:List Nt} {i:Nat} (h:∀y∈l,qO y.e) :∀y∈Wv l i,qO y.e:=fun y hy=>by
 obtain ⟨k,hk,rfl⟩ :=je7.1 hy
 have hk:=jgi.1 hk
 split
 ·exact(show qO (nt l k).e from h _ (XU hk))
 ·exact h _ (XU hk)
def ul (l:List Nt) :List Nt:=Wv l l.length
theorem jd5 {l:List Nt} {k:Nat} {e:Nt} (h:k<l.length) (he:nt l k=e) {v:Int} :qk (l.flatMap qe) (0+k*8+6) [.int .i64 v] = (l.set k {e with l1:=v}).flatMap qe:=by
 subst he
 exact Ua qe kf (DM h) (jZ (nt l k).e++ [.int .i64 (nt l k).one, .int .i64 (nt l k).two]) [.int .i64 (nt l k).l1] [.int .i64 v] [.int .i64 (nt l k).l2] (by simp [qe]) (by simp [qe]) rfl (by simp [jZ])
theorem jd6 {l:List Nt} {k:Nat} {e:Nt} (h:k<l.length) (he:nt l k=e) {v:Int} :qk (l.flatMap qe) (0+k*8+7) [.int .i64 v] = (l.set k {e with l2:=v}).flatMap qe:=by
 subst he
 exact Ua qe kf (DM h) (jZ (nt l k).e++ [.int .i64 (nt l k).one, .int .i64 (nt l k).two, .int .i64 (nt l k).l1]) [.int .i64 (nt l k).l2] [.int .i64 v] [] (by simp [qe]) (by simp [qe]) rfl (by simp [jZ])
theorem jdu {l:List Nt} {k:Nat} {e:Nt} (h:k<l.length) :nt (l.set k e) k=e:=by simp [nt,List.getD,h]
theorem Du (l:List Nt) (x:Option Addr×Nat) (w:World) (hr: (Fr l x).P w) (hok:∀y∈l,qO y.e) (hl:l.length≤16384) (ha:∀t,aS t l≤16384) :
  Calls Tryz.prog 63 #[.slice x.1 l.length x.2] w fun e w'=>e= .returned (.tuple #[])∧Wrs (Fr l x).F w w'∧(JP 0 125 8 l.length ((ul l).flatMap qe) x).P w':=by
 refine yK (m:=39) (PF x) (Fr l x) (hr) (fun b hb=>X9.1 hb) J (Tryz.func63) J J (lb J) ?_;refine S5 ?_;refine JI (X:=Nat) (fun i=>i≤l.length) (fun i=>l.length- i) (fun i=> [(2, .int .i64 (i:Int))]) (kK [0]) (fun i=> [JP 0 125 8 l.length ((Wv l i).flatMap qe) x]) 0 (jeE _) ⟨J,sz⟩ (fun _ h=>by rw [jav];exact h) ?_
 intro i hi L hL1
 refine v9 ?_;refine ji (by first | (dsimp only;done) | (dsimp only;rfl) | rfl) ?_
 obtain ⟨M,hM⟩ :∃M,M=Wv l i:=⟨_,rfl⟩
 have hMl:M.length=l.length:= (by rw [hM];exact D2 l i)
 have hMa:∀t,aS t M≤16384:= (fun t=>by rw [hM,jd4];exact ha t)
 have hMo:∀y∈M,qO y.e:= (by rw [hM];exact jdF hok)
 rw [←hM]
 refine S8 ?_;refine cZ (fun c1=> ?_) (fun c1=> ?_)
 ·have hlt:i<l.length:= (by omega)
  have hlM:i<M.length:= (by omega)
  have hb1:Qp false M i l.length=Qp false l i l.length:= (by rw [hM];exact D1 hlt false _ (jeD _))
  have hb2:Qp true M i l.length=Qp true l i l.length:= (by rw [hM];exact D1 hlt true _ (jeD _))
  have hn:nt M i=nt l i:= (by rw [hM,SC hlt,if_neg (by omega)])
  have hd1:=Uz (s:=false) (k:=i) (jeD l.length)
  have hd2:=Uz (s:=true) (k:=i) (jeD l.length)
  have hc1:=Zi (s:=false) hlt
  have hc2:=Zi (s:=true) hlt
  have ha1:=ha false
  have ha2:=ha true
  simp only [v6,if_true,jfC,if_false] at hc1 hc2
  refine S8 ?_;refine a9 (jH xR J J (fun w1 hs=>by have:=Ol M x i w1 (by have:= (hs.all 0 _ J).1;rw [←hMl] at this;exact this) hlM hMo (by omega) hMa;rw [hMl,hb1,hb2] at this;exact this)) ?_;refine S13 ?_;refine a9 (qx (j:=i) (fun w hs=> (hs.all 0 _ J).1) J J J Jz hlt) ?_;refine S1 ?_;refine a9 (jr J J jz (ZL (i:=4) (v:= .int .i64 (nt l i).one) (fun w hs=> (hs.all 0 _ J).1) hlM (by omega) (by rw [hn];rfl))) ?_;refine S1 ?_;refine a9 (qx (j:=i) (fun w hs=> (hs.all 0 _ J).1) J J J Jz hlt) ?_;refine S2 ?_;refine uz (k:=0) (vs:= [.int .i64 (Qp false l i l.length+ (nt l i).one)]) J J J J (by rfl) (by rfl) kd.szx J J (by simp) (by rw [wZ qe 8 kf];simp only [jeP,je6];omega) ?_;refine n9 ?_
  rw [jd5 hlM hn]
  have hlM2:i< (M.set i {nt l i with l1:=Qp false l i l.length+ (nt l i).one}).length:= (by rw [jfM];exact hlM)
  have hn2:=jdu (e:= {nt l i with l1:=Qp false l i l.length+ (nt l i).one}) hlM
  refine S7 ?_;refine a9 (qx (j:=i) (fun w hs=> (hs.all 0 _ J).1) J J J Jz hlt) ?_;refine S1 ?_;refine a9 (jr J J jz (ZL (i:=5) (v:= .int .i64 (nt l i).two) (fun w hs=> (hs.all 0 _ J).1) hlM2 (by omega) (by rw [hn2];rfl))) ?_;refine S1 ?_;refine a9 (qx (j:=i) (fun w hs=> (hs.all 0 _ J).1) J J J Jz hlt) ?_;refine S2 ?_;refine uz (k:=0) (vs:= [.int .i64 (Qp true l i l.length+ (nt l i).two)]) J J J J (by rfl) (by rfl) kd.szx J J (by simp) (by rw [wZ qe 8 kf,jfM];simp only [jeP,je6];omega) ?_;refine n9 ?_
  rw [jd6 hlM2 hn2,List.set_set]
  refine S8 ?_
  exact j8 hL1 (i+1) (by omega) (by omega) ⟨vi (by omega),sz⟩ (fun _ h=>h.upto ⟨by rw [jau hlt,←hM];rfl,trivial⟩)
 ·have hin:i=l.length:= (by omega)
  refine S4 ?_;refine Q2 J ?_
  intro w' hs
  exact⟨rfl,hs.over.wrs.mono fun b hb=>X9.2 hb,by have:= (hs.all 0 _ rfl).1;rw [hM,hin] at this;exact this⟩
end Go.Proofs.YtkagkgjjfdkoaaaGreat
namespace Go.Proofs.YtkagkgjjfdkoaaaGreat
open Go Go.RowKit
section
variable {w0:Bs} {Rs:List Res}
theorem rdG {α:Type} {f:α→List Value} {m T B q:Nat} {l:List α} {r:Option Addr×Nat} {j off i:Nat} {a:α} {v:Value} (hf:∀a,(f a).length=m) (hr:∀w,St w0 Rs w→(JP B T m q (l.flatMap f) r).P w) (ha:l[j]? =some a) (he:off=j*m+i) (hv: (f a)[i]? =some v) :∀w,St w0 Rs w→w.cell? ⟨wN r.1,off,none⟩ =some v:=fun w hs=>by
 refine Xc (hr w hs) ?_
 have hi:= (List.getElem?_eq_some_iff.1 hv).1
 obtain ⟨hj,e⟩ :=List.getElem?_eq_some_iff.1 ha
 rw [he,xf f m hf l j i hj (by rw [hf] at hi;exact hi),e]
 exact hv
theorem jek {α:Type} {f:α→List Value} {m T B q:Nat} {l:List α} {r:Option Addr×Nat} {j off:Nat} {a:α} (vs:List Value) (i:Nat) (hf:∀a,(f a).length=m) (hr:∀w,St w0 Rs w→(JP B T m q (l.flatMap f) r).P w) (ha:l[j]? =some a) (he:off=j*m+i) (hv:∀q v,vs[q]? =some v→(f a)[i+q]? =some v) :∀w,St w0 Rs w→∀q v,vs[q]? =some v→w.cell? ⟨wN r.1,off+q,none⟩ =some v:=fun w hs q v h=>
 rdG hf hr ha (by omega) (hv q v h) w hs
end
theorem jbE {l:List Leg} {j:Nat} (h:j<l.length) :l[j]? =some (lg l j) :=by rw [List.getElem?_eq_getElem h,yf h]
theorem jdC (B T s:Nat) (w:World) : (JP B T s 0 [] (none,0)).P w:=World.ownsRow_nil _ _ _ _
theorem Z9 {rs:List jS} (h:JO rs=true) :Fine (Jm rs) :=⟨jak h,FF rs rs.length,fun f=>TV f rs rs.length⟩
structure Key (es:List Leg) (p:Leg) :Prop where
 ok:qO p
 ne:lA p≠lB p
 ord:¬wq (lB p) (lA p)
theorem Iv {es:List Leg} : (VK es).length≤es.length:=by
 have:=Wx (s:=false) es []
 rw [VK,jeX]
 simpa using this
theorem Rl (l:List Nt) : (ul l).length=l.length:=D2 l _
theorem Nj {l:List Nt} {k:Nat} (h:k<l.length) :nt (ul l) k=sdN l k:=by rw [ul,SC h,if_pos h]
theorem Cj (t:Bool) :aS t [] =0:=rfl
theorem yu {es:List Leg} (b1 o1:Nat) (A:Option Addr) (n c:Nat) (rs:List jS) (w:World) (hes:es=Jm rs) (hcell:w.cell? ⟨b1,o1,none⟩ =some (.slice A n c)) (hb1:b1<w.heap.size) (h:Rings w A n rs) (ht: (total rs:Int)≤1048577) :
  Calls Tryz.prog 58 #[.pointer (some ⟨b1,o1,none⟩)] w fun e w'=>∃x:Option Addr×Nat,e= .returned (.slice x.1 es.length x.2)∧Over w w'∧(JP 0 118 4 es.length (es.flatMap jZ) x).P w'∧(∀b,(JP 0 118 4 es.length (es.flatMap jZ) x).F b→w.heap.size≤b)∧(JP 0 118 4 es.length (es.flatMap jZ) x).B=0∧True:=by
 subst hes
 exact qS ((LN b1 o1 A n c rs w hcell hb1 h ht).mono fun e w' ⟨v,h1,_,h2,h3⟩ =>⟨v,h1,h2,h3⟩)
def cr (P Q:Pn) :Int:=P.1*Q.2- P.2*Q.1
def ws (P Q:Pn) :Int:=if(P.2≤0∧0<Q.2)∧0<cr P Q then 1 else if(Q.2≤0∧0<P.2)∧cr P Q<0 then-1 else 0
def up (α:Int) (P:Pn) :Int:=if 0<α∧0<P.2 then 1 else 0
theorem kB {a b p:Int} (h:p=a*b) : (0<a∧0<b∧0<p)∨(0<a∧b<0∧p<0)∨(a<0∧0<b∧p<0)∨(a<0∧b<0∧0<p)∨(a=0∧p=0)∨(b=0∧p=0) :=by
 subst h
 rcases jfA a 0 with ha | ha | ha
 ·rcases jfA b 0 with hb | hb | hb
  ·exact .inr (.inr (.inr (.inl ⟨ha,hb,Int.mul_pos_of_neg_of_neg ha hb⟩)))
  ·subst hb;simp
  ·exact .inr (.inr (.inl ⟨ha,hb,jfS ha hb⟩))
 ·subst ha;simp
 ·rcases jfA b 0 with hb | hb | hb
  ·exact .inr (.inl ⟨ha,hb,Int.mul_neg_of_pos_of_neg ha hb⟩)
  ·subst hb;simp
  ·exact .inl ⟨ha,hb,jfw ha hb⟩
def Hf (α β:Int) (P:Pn) :Prop:=0<α*P.1+β*P.2
theorem Uk {α β:Int} {P Q:Pn} (hP:Hf α β P) (hQ:Hf α β Q) :ws P Q=up α Q- up α P:=by
 have key:α*cr P Q= (α*P.1+β*P.2) *Q.2- P.2* (α*Q.1+β*Q.2) :=by unfold cr;grind
 unfold Hf at hP hQ
 have h1:=kB (a:=α*P.1+β*P.2) (b:=Q.2) rfl
 have h2:=kB (a:=P.2) (b:=α*Q.1+β*Q.2) rfl
 have h3:=kB (a:=α) (b:=cr P Q) rfl
 unfold ws up
 generalize (α*P.1+β*P.2) *Q.2=x at*
 generalize P.2* (α*Q.1+β*Q.2) =y at*
 generalize α*cr P Q=z at*
 generalize α*P.1+β*P.2=p at*
 generalize α*Q.1+β*Q.2=q at*
 generalize cr P Q=t at*
 repeat' split
 all_goals omega
theorem Le {α β:Int} {P P' Q Q':Pn} (h1:Hf α β P) (h2:Hf α β P') (h3:Hf α β Q) (h4:Hf α β Q') :ws P P'+ws P' Q'=ws P Q+ws Q Q':=by
 rw [Uk h1 h2,Uk h2 h4,Uk h1 h3,Uk h3 h4]
 omega
theorem Xy {α β:Int} {P Q R S:Pn} (h1:Hf α β P) (h2:Hf α β Q) (h3:Hf α β R) (h4:Hf α β S) :ws P Q+ws Q R+ws R S+ws S P=0:=by
 rw [Uk h1 h2,Uk h2 h3,Uk h3 h4,Uk h4 h1]
 omega
theorem jbj (P Q:Pn) :cr Q P= -cr P Q:=by unfold cr;grind
theorem Ld (P Q:Pn) :ws Q P= -ws P Q:=by
 unfold ws
 rw [jbj]
 generalize cr P Q=t
 repeat' split
 all_goals omega
def sb (P Q:Pn) :Pn:= (P.1- Q.1,P.2- Q.2)
def zX (X X' Y Y':Pn) :Int:=ws (sb X Y) (sb X' Y) +ws (sb X' Y) (sb X' Y') +ws (sb X' Y') (sb X Y') +ws (sb X Y') (sb X Y)
theorem Sm (X X' Y Y':Pn) :zX X' X Y Y'= -zX X X' Y Y':=by
 unfold zX
 rw [Ld (sb X' Y) (sb X Y),Ld (sb X' Y) (sb X' Y'),Ld (sb X' Y') (sb X Y'),Ld (sb X Y') (sb X Y)]
 have e1:ws (sb X' Y) (sb X' Y') =ws (sb X' Y) (sb X' Y') :=rfl
 omega
theorem jdR (X X' Y:Pn) :cr (sb X Y) (sb X' Y) =tn X X' Y:=by simp only [cr,sb,tn,Kd];grind
theorem jdS (X' Y Y':Pn) :cr (sb X' Y) (sb X' Y') =tn Y Y' X':=by simp only [cr,sb,tn,Kd];grind
theorem jdT (X X' Y':Pn) :cr (sb X' Y') (sb X Y') = -tn X X' Y':=by simp only [cr,sb,tn,Kd];grind
theorem jdU (X Y Y':Pn) :cr (sb X Y') (sb X Y) = -tn Y Y' X:=by simp only [cr,sb,tn,Kd];grind
theorem Fd (X X' Y Y':Pn) :tn X X' Y'- tn X X' Y= -(tn Y Y' X'- tn Y Y' X) :=by simp only [tn,Kd];grind
theorem Ny {P Q:Pn} (h:0<cr P Q) :ws P Q=if P.2≤0∧0<Q.2 then 1 else 0:=by
 unfold ws
 generalize cr P Q=t at*
 repeat' split
 all_goals omega
theorem Be {X X' Y Y':Pn} (h1:0<tn X X' Y) (h2:tn X X' Y'<0) (h3:tn Y Y' X<0) (h4:0<tn Y Y' X') :zX X X' Y Y'≠0:=by
 have c0:=jdR X X' Y
 have c1:=jdS X' Y Y'
 have c2:=jdT X X' Y'
 have c3:=jdU X Y Y'
 unfold zX
 rw [Ny (by omega),Ny (by omega),Ny (by omega),Ny (by omega)]
 have w1:0< -(tn Y Y' X'*tn X X' Y') :=by have:=Int.mul_neg_of_pos_of_neg h4 h2;omega
 have w2:0<tn Y Y' X*tn X X' Y':=Int.mul_pos_of_neg_of_neg h3 h2
 have w3:0< -(tn Y Y' X*tn X X' Y) :=by have:=jfS h3 h1;omega
 have w4:0<tn Y Y' X'*tn X X' Y:=jfw h4 h1
 have hs: -(tn Y Y' X'*tn X X' Y') * (sb X Y).2+tn Y Y' X*tn X X' Y'* (sb X' Y).2+ -(tn Y Y' X*tn X X' Y) * (sb X' Y').2+tn Y Y' X'*tn X X' Y* (sb X Y').2=0:=by
  simp only [tn,Kd,sb];grind
 have z0:∀P Q:Pn,P.2=0→Q.2=0→cr P Q=0:=fun P Q e1 e2=>by simp [cr,e1,e2]
 generalize tn Y Y' X'*tn X X' Y'=a1 at*
 generalize tn Y Y' X*tn X X' Y'=a2 at*
 generalize tn Y Y' X*tn X X' Y=a3 at*
 generalize tn Y Y' X'*tn X X' Y=a4 at*
 generalize tn X X' Y=t1 at*
 generalize tn X X' Y'=t2 at*
 generalize tn Y Y' X=t3 at*
 generalize tn Y Y' X'=t4 at*
 generalize sb X Y=P0 at*
 generalize sb X' Y=P1 at*
 generalize sb X' Y'=P2 at*
 generalize sb X Y'=P3 at*
 intro hz
 by_cases hp:0<P0.2
 ·have k1:0<P1.2∧0<P2.2∧0<P3.2:=by
   by_cases k3:0<P3.2<;>by_cases k2:0<P2.2<;>by_cases k1:0<P1.2<;>simp [hp,k1,k2,k3,Int.not_le.2,jfx.1] at hz⊢<;>omega
  have m0:=jfw w1 hp
  have m1:=jfw w2 k1.1
  have m2:=jfw w3 k1.2.1
  have m3:=jfw w4 k1.2.2
  omega
 ·have k1:P1.2≤0∧P2.2≤0∧P3.2≤0:=by
   by_cases k3:0<P3.2<;>by_cases k2:0<P2.2<;>by_cases k1:0<P1.2<;> (try omega) <;>exfalso<;>revert hz<;> (repeat' split) <;>omega
  have m0:=kB (a:= -a1) (b:=P0.2) rfl
  have m1:=kB (a:=a2) (b:=P1.2) rfl
  have m2:=kB (a:= -a3) (b:=P2.2) rfl
  have m3:=kB (a:=a4) (b:=P3.2) rfl
  have e0:P0.2=0:=by omega
  have e1:P1.2=0:=by omega
  have:=z0 P0 P1 e0 e1
  omega
theorem Rz (a b p:Pn) :tn b a p= -tn a b p:=by simp only [tn,Kd];grind
theorem IK {X X' Y Y':Pn} (h:qM X X' Y Y'=true) :zX X X' Y Y'≠0:=by
 have hd:=Fd X X' Y Y'
 obtain ⟨h1,h2⟩ :=KX.1 h
 rcases h1 with h1 | h1
 ·have f1:=Rz X X' Y
  have f2:=Rz X X' Y'
  have:=Be (X:=X') (X':=X) (Y:=Y) (Y':=Y') (by omega) (by omega) (by omega) (by omega)
  rw [Sm] at this
  omega
 ·exact Be (by omega) (by omega) (by omega) (by omega)
theorem X4 {a b p:Pn} (hab:a≠b) (ht:tn a b p=0) (hn:uX a b p≠true) :∃m n:Int,0<m∧0<n∧m* (a.1- p.1) =n* (b.1- p.1)∧m* (a.2- p.2) =n* (b.2- p.2) :=by
 have ht': (b.1- a.1) * (p.2- a.2) = (b.2- a.2) * (p.1- a.1) :=by simp only [tn,Kd] at ht;omega
 have hn':¬((min a.1 b.1≤p.1∧p.1≤max a.1 b.1)∧min a.2 b.2≤p.2∧p.2≤max a.2 b.2) :=fun h=>hn (Kf.2 ⟨ht,h.1,h.2⟩)
 by_cases h1:p.1<a.1∧p.1<b.1
 ·exact⟨b.1- p.1,a.1- p.1,by omega,by omega,jfn ..,by grind⟩
 ·by_cases h2:a.1<p.1∧b.1<p.1
  ·exact⟨p.1- b.1,p.1- a.1,by omega,by omega,by grind,by grind⟩
  ·by_cases h3:p.2<a.2∧p.2<b.2
   ·exact⟨b.2- p.2,a.2- p.2,by omega,by omega,by grind,jfn ..⟩
   ·by_cases h4:a.2<p.2∧b.2<p.2
    ·exact⟨p.2- b.2,p.2- a.2,by omega,by omega,by grind,by grind⟩
    ·exact absurd ⟨⟨by omega,by omega⟩,by omega,by omega⟩ hn'
theorem zv {a b p q:Pn} (hab:a≠b) (ht:tn a b p=0) (hn:uX a b p≠true) (h1:¬(0<tn p q a∧0<tn p q b)) (h2:¬(tn p q a<0∧tn p q b<0)) :tn p q a=0∧tn p q b=0:=by
 obtain ⟨m,n,hm,hn',e1,e2⟩ :=X4 hab ht hn
 have key:m*tn p q a=n*tn p q b:=by
  have g1:m*tn p q a= (q.1- p.1) * (m* (a.2- p.2)) - (q.2- p.2) * (m* (a.1- p.1)) :=by simp only [tn,Kd];grind
  have g2:n*tn p q b= (q.1- p.1) * (n* (b.2- p.2)) - (q.2- p.2) * (n* (b.1- p.1)) :=by simp only [tn,Kd];grind
  rw [g1,g2,e1,e2]
 have s1:=kB (a:=m) (b:=tn p q a) rfl
 have s2:=kB (a:=n) (b:=tn p q b) rfl
 omega
theorem Lc (p q a:Pn) :tn q p a= -tn p q a:=by simp only [tn,Kd];grind
structure Off (X X' Y Y':Pn) :Prop where
 x:X≠X'
 y:Y≠Y'
 nn1:uX X X' Y≠true
 nn2:uX X X' Y'≠true
 nn3:Go.Proofs.YtkagkgjjfdkoaaaGreat.uX Y Y' X≠true
 nn4:Go.Proofs.YtkagkgjjfdkoaaaGreat.uX Y Y' X'≠true
theorem De {p q x1 x2 y1 y2 k j:Int} (hk:0<k) (hj:0<j) (e1:k*x1=j*y1) (e2:k*x2=j*y2) (h:0<p*y1+q*y2) :0<p*x1+q*x2:=by
 have e:k* (p*x1+q*x2) =j* (p*y1+q*y2) :=by
  have:k* (p*x1+q*x2) =p* (k*x1) +q* (k*x2) :=by grind
  rw [this,e1,e2]
  grind
 have s1:=kB (a:=k) (b:=p*x1+q*x2) rfl
 have s2:=jfw hj h
 omega
theorem Pi {X X' Y Y':Pn} (h:Off X X' Y Y') (hs:qM X X' Y Y'≠true) :zX X X' Y Y'=0:=by
 have g0:∀Z W:Pn,-(X'.1- X.1) * (Z.2- W.2) + (X'.2- X.2) * (Z.1- W.1) =tn X X' W- tn X X' Z:=fun Z W=>by simp only [tn,Kd];grind
 have g1:∀Z W:Pn,(Y'.1- Y.1) * (Z.2- W.2) + -(Y'.2- Y.2) * (Z.1- W.1) =tn Y Y' Z- tn Y Y' W:=fun Z W=>by simp only [tn,Kd];grind
 have x0:tn X X' X=0:=by simp only [tn,Kd];grind
 have x1:tn X X' X'=0:=by simp only [tn,Kd];grind
 have y0:tn Y Y' Y=0:=by simp only [tn,Kd];grind
 have y1:tn Y Y' Y'=0:=by simp only [tn,Kd];grind
 by_cases a1:0<tn X X' Y∧0<tn X X' Y'
 ·refine Xy (α:=X'.2- X.2) (β:= -(X'.1- X.1)) ?_ ?_ ?_ ?_<;>simp only [Hf,sb]
  ·have:=g0 X Y;omega
  ·have:=g0 X' Y;omega
  ·have:=g0 X' Y';omega
  ·have:=g0 X Y';omega
 by_cases a2:tn X X' Y<0∧tn X X' Y'<0
 ·have n1:∀Z W:Pn,-(X'.2- X.2) * (Z.1- W.1) + (X'.1- X.1) * (Z.2- W.2) =tn X X' Z- tn X X' W:=fun Z W=>by simp only [tn,Kd];grind
  refine Xy (α:= -(X'.2- X.2)) (β:=X'.1- X.1) ?_ ?_ ?_ ?_<;>simp only [Hf,sb]
  ·have:=n1 X Y;omega
  ·have:=n1 X' Y;omega
  ·have:=n1 X' Y';omega
  ·have:=n1 X Y';omega
 by_cases a3:0<tn Y Y' X∧0<tn Y Y' X'
 ·refine Xy (α:= -(Y'.2- Y.2)) (β:=Y'.1- Y.1) ?_ ?_ ?_ ?_<;>simp only [Hf,sb]
  ·have:=g1 X Y;omega
  ·have:=g1 X' Y;omega
  ·have:=g1 X' Y';omega
  ·have:=g1 X Y';omega
 by_cases a4:tn Y Y' X<0∧tn Y Y' X'<0
 ·have n1:∀Z W:Pn,(Y'.2- Y.2) * (Z.1- W.1) + -(Y'.1- Y.1) * (Z.2- W.2) =tn Y Y' W- tn Y Y' Z:=fun Z W=>by simp only [tn,Kd];grind
  refine Xy (α:=Y'.2- Y.2) (β:= -(Y'.1- Y.1)) ?_ ?_ ?_ ?_<;>simp only [Hf,sb]
  ·have:=n1 X Y;omega
  ·have:=n1 X' Y;omega
  ·have:=n1 X' Y';omega
  ·have:=n1 X Y';omega
 have f1:=Lc Y Y' X
 have f2:=Lc Y Y' X'
 have f3:=Lc X X' Y
 have f4:=Lc X X' Y'
 have hd:=Fd X X' Y Y'
 have all0:tn X X' Y=0∧tn X X' Y'=0∧tn Y Y' X=0∧tn Y Y' X'=0:=by
  have k1:tn X X' Y=0→tn Y Y' X=0∧tn Y Y' X'=0:=fun e=>zv h.x e h.nn1 a3 a4
  have k2:tn X X' Y'=0→tn Y' Y X=0∧tn Y' Y X'=0:=fun e=>zv h.x e h.nn2 (by omega) (by omega)
  have k3:tn Y Y' X=0→tn X X' Y=0∧tn X X' Y'=0:=fun e=>zv h.y e h.nn3 a1 a2
  have k4:tn Y Y' X'=0→tn X' X Y=0∧tn X' X Y'=0:=fun e=>zv h.y e h.nn4 (by omega) (by omega)
  have hs':=fun e=>hs (KX.2 e)
  by_cases z1:tn X X' Y=0
  ·have:=k1 z1;have:=k3 this.1;omega
  ·by_cases z2:tn X X' Y'=0
   ·have:=k2 z2;have:=k3 (by omega);omega
   ·by_cases z3:tn Y Y' X=0
    ·have:=k3 z3;omega
    ·by_cases z4:tn Y Y' X'=0
     ·have:=k4 z4;omega
     ·exact absurd ⟨by omega,by omega⟩ hs'
 obtain ⟨m,n,hm,hn,e1,e2⟩ :=X4 h.x all0.1 h.nn1
 obtain ⟨m',n',hm',hn',e1',e2'⟩ :=X4 h.y all0.2.2.1 h.nn3
 obtain ⟨m'',n'',hm'',hn'',e1'',e2''⟩ :=X4 h.y all0.2.2.2 h.nn4
 have hne:X.1- Y.1≠0∨X.2- Y.2≠0:=by
  by_cases k:X.1- Y.1=0
  ·refine .inr fun k2=>h.nn1 ?_
   have:Y=X:=Prod.ext (by omega) (by omega)
   rw [this]
   exact xX X X'
  ·exact .inl k
 have hq:0< (X.1- Y.1) * (X.1- Y.1) + (X.2- Y.2) * (X.2- Y.2) :=by
  have s1:=kB (a:=X.1- Y.1) (b:=X.1- Y.1) rfl
  have s2:=kB (a:=X.2- Y.2) (b:=X.2- Y.2) rfl
  omega
 have neg:∀ {k j x y z:Int},k* (x- z) =j* (y- z)→j* (z- y) =k* (z- x) :=fun {k j x y z} e=>by
  have g1:j* (z- y) = -(j* (y- z)) :=by grind
  have g2:k* (z- x) = -(k* (x- z)) :=by grind
  omega
 have hb:0< (X.1- Y.1) * (X'.1- Y.1) + (X.2- Y.2) * (X'.2- Y.2) :=De hn hm e1.symm e2.symm hq
 refine Xy (α:=X.1- Y.1) (β:=X.2- Y.2) hq hb ?_ ?_
 ·exact De hn'' hm'' (neg e1'') (neg e2'') hb
 ·exact De hn' hm' (neg e1') (neg e2') hq
end Go.Proofs.YtkagkgjjfdkoaaaGreat
