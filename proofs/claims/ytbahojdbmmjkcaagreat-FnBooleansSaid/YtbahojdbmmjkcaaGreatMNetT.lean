import Derived.Test.YtbahojdbmmjkcaaGreatMNetI
import Derived.Test.YtbahojdbmmjkcaaGreatMNetQ
import Derived.Test.YtbahojdbmmjkcaaGreatMStabP
set_option linter.unusedVariables false
set_option linter.unusedSimpArgs false
namespace Go.Proofs.YtbahojdbmmjkcaaGreat
open Go Go.RowKit
variable {e:Nt} {i k:Nat} {l:List Nt} {s:Bool} {v:Int}
set_option maxRecDepth 100000
set_option maxHeartbeats 4000000
theorem jiO (p q:Pn) (w:World) (hp:bd2 p) (hq:bd2 q) :Calls Tryz.prog 267 #[pV p,pV q] w fun e w'=>e= .returned (pV (p.1+q.1,p.2+q.2))∧Over w w':=by
 obtain ⟨⟨a1,a2⟩,a3,a4⟩ :=hp;obtain ⟨⟨b1,b2⟩,b3,b4⟩ :=hq
 refine j6 (m:=16) (Tryz.func267) J J (lb J) ?_;refine S3 ?_;refine aX (fun b1=> ?_);refine N1 ?_;refine aX (fun b2=> ?_);refine N1 ?_;refine aL (fun b3=> ?_);refine N13 ?_;refine a9 (JR J J (q8 J J)) ?_;refine S4 ?_;refine jK J (J8 (k:=2) J jk J J) ?_
 intro w' hs
 exact⟨rfl,hs.fin⟩
theorem EO (p:Pn) (w:World) (hp:bd2 p) :Calls Tryz.prog 242 #[pV p, .int .i64 2] w fun e w'=>e= .returned (pV (2*p.1,2*p.2))∧Over w w':=by
 obtain ⟨⟨a1,a2⟩,a3,a4⟩ :=hp
 refine j6 (m:=14) (Tryz.func242) J J (lb J) ?_;refine S3 ?_;refine aX (fun b1=> ?_);refine N1 ?_;refine aL (fun b2=> ?_);refine N11 ?_;refine a9 (JR J J (q8 J J)) ?_;refine S4 ?_;refine jK J (J8 (k:=1) J jk J J) ?_
 intro w' hs
 exact⟨by rw [jj1 p.1,jj1 p.2],hs.fin⟩
theorem jdU (p:Pn) (w:World) (hp:uW p.1∧uW p.2) :Calls Tryz.prog 268 #[pV p] w fun e w'=>e= .returned (pV (-p.2,p.1))∧Over w w':=by
 obtain ⟨⟨a1,a2⟩,a3,a4⟩ :=hp
 refine j6 (m:=9) (Tryz.func268) J J (lb J) ?_;refine S3 ?_;refine aX (fun b1=> ?_);refine N1 ?_;refine aL (fun b2=> ?_);refine N5 ?_;refine a9 (yK J J Om Om) ?_;refine S2 ?_;refine a9 (JR J J (q8 J J)) ?_;refine S4 ?_;refine jK J (J8 (k:=1) J jk J J) ?_
 intro w' hs
 exact⟨rfl,hs.fin⟩
def LH (p:Leg) :Pn:=if p.ay=p.b_y then(-(vh p),vQ p) else(vQ p,vh p)
def Dd (p q:Leg) :Leg:=if p.ay=p.b_y then xo (kg true q) else kg true q
theorem Nw (p q:Leg) :Di p q=QB (Dd p q) (LH p).1 (LH p).2:=by
 unfold Di Dd LH
 split<;>rfl
theorem jhu {p:Leg} (h:qM p) :uW (LH p).1∧uW (LH p).2:=by
 obtain ⟨⟨a1,a2⟩,⟨a3,a4⟩,⟨b1,b2⟩,b3,b4⟩ :=h
 unfold LH vQ vh
 split
 ·refine⟨⟨?_,?_⟩,?_,?_⟩ <;> (simp only;omega)
 ·refine⟨⟨?_,?_⟩,?_,?_⟩ <;> (simp only;omega)
theorem jho {p q:Leg} (h:qM q) :uW (Dd p q).ax∧uW (Dd p q).ay∧uW (Dd p q).bx∧uW (Dd p q).b_y:=by
 obtain ⟨h1,h2,h3,h4⟩ :=Cw true h
 unfold Dd xo uW at*
 split
 ·simp only;omega
 ·exact⟨h1,h2,h3,h4⟩
theorem jgD {l:Leg} (h:qM l) :bd2 (lA l)∧bd2 (lB l) :=⟨⟨h.1,h.2.1⟩,h.2.2.1,h.2.2.2⟩
theorem R6 :QG s l k (k+1) =QG s l k k:=by simp [QG]
theorem jbN (h:i≠k) (hu:F2 (Dd (nt l k).e (nt l i).e) (LH (nt l k).e).1 (LH (nt l k).e).2=true) :QG s l k i+V6 s (nt l i) =QG s l k (i+1) :=by
 rw [QG,if_neg h,Nw,QB,if_pos hu,jkP]
theorem R5 (h:i≠k) (hu:F2 (Dd (nt l k).e (nt l i).e) (LH (nt l k).e).1 (LH (nt l k).e).2=false) (hd:uz (Dd (nt l k).e (nt l i).e) (LH (nt l k).e).1 (LH (nt l k).e).2=true) :QG s l k i- V6 s (nt l i) =QG s l k (i+1) :=by
 rw [QG,if_neg h,Nw,QB,hu,if_neg (by simp),if_pos hd,Int.mul_neg,jkP]
 omega
theorem R7 (h:i≠k) (hu:F2 (Dd (nt l k).e (nt l i).e) (LH (nt l k).e).1 (LH (nt l k).e).2=false) (hd:uz (Dd (nt l k).e (nt l i).e) (LH (nt l k).e).1 (LH (nt l k).e).2=false) :QG s l k i=QG s l k (i+1) :=by
 rw [QG,if_neg h,Nw,QB,hu,if_neg (by simp),hd,if_neg (by simp),jkT,jk4]
theorem Dw (l:List Nt) (x:Option Addr×Nat) (k:Nat) (w:World) (hr: (RH l x).P w) (hk:k<l.length) (hok:∀y∈l,qM y.e) (hl:l.length≤16384) (ha:∀t,aS t l≤16384) :
  Calls Tryz.prog 235 #[.slice x.1 l.length x.2, .int .i64 (k:Int)] w fun e w'=>e= .returned (.tuple #[.int .i64 (QG false l k l.length), .int .i64 (QG true l k l.length)])∧Over w w':=by
 have hpo:=hok _ (Hz hk)
 obtain ⟨m1,m2⟩ :=jhu hpo
 obtain ⟨⟨a1,a2⟩,⟨a3,a4⟩,⟨b1',b2'⟩,b3',b4'⟩ :=id hpo
 obtain ⟨hp1,hp2⟩ :=jgD hpo
 obtain ⟨p,hp⟩ :∃p,p= (nt l k).e:=⟨_,rfl⟩
 refine j6 (m:=132) (Tryz.func235) J J (lb J) ?_;refine S9 ?_;refine a9 (qQ (j:=k) (fun w hs=>Qr hr hs.fin) J J J JI hk) ?_;refine S1 ?_;refine a9 (jl J J KT J (xy [.int .i64 (nt l k).e.ax, .int .i64 (nt l k).e.ay, .int .i64 (nt l k).e.bx, .int .i64 (nt l k).e.b_y] 0 (fun w hs=>Qr hr hs.fin) hk Om (MF J J J J))) ?_;refine S1 ?_;refine aL (fun b1=> ?_);refine N20 ?_;refine a9 (jM O8 J J (fun w1 hs=>jiO (lA (nt l k).e) (lB (nt l k).e) w1 hp1 hp2)) ?_;refine S1 ?_;refine aL (fun b2=> ?_);refine N3 ?_;refine uB [] ([.cel b1 147 [.int .i64 (nt l k).e.ax, .int .i64 (nt l k).e.ay, .int .i64 (nt l k).e.bx, .int .i64 (nt l k).e.b_y], .cel b2 28 [.int .i64 (LH (nt l k).e).1, .int .i64 (LH (nt l k).e).2]]) (kK [0,1,4,5,7,8]) (fun L h_t31=> ?_) ?_
 ·refine S4 ?_;refine cZ (fun c1=> ?_) (fun c1=> ?_)
  ·refine S2 ?_;refine a9 (jM W8 J J (fun w1 hs=>jdU (vQ (nt l k).e,vh (nt l k).e) w1 ⟨⟨by unfold vQ;simp only;omega,by unfold vQ;simp only;omega⟩,by unfold vh;simp only;omega,by unfold vh;simp only;omega⟩)) ?_;refine S3 ?_
   exact Jo h_t31 ⟨J,sz⟩ (fun _ h=>h.upto ⟨J,by rw [LH,if_pos c1],trivial⟩)
  ·refine S2 ?_
   exact Jo h_t31 ⟨J,sz⟩ (fun _ h=>h.upto ⟨J,by rw [LH,if_neg c1];rfl,trivial⟩)
 ·refine V14 ?_;refine qv (X:=Nat) (fun i=>i≤l.length) (fun i=>l.length- i) (fun i=> [(9, .int .i64 (QG false l k i)),(10, .int .i64 (QG true l k i)),(11, .int .i64 (i:Int))]) (kK [0,1,4,5,7,8]) 0 (jjo _) ⟨J,sz⟩ ?_
  intro i hi L hL1
  refine v9 ?_
  have hb1:=yW (s:=false) (k:=k) (show i≤l.length from hi)
  have hb2:=yW (s:=true) (k:=k) (show i≤l.length from hi)
  have ha1:=ha false
  have ha2:=ha true
  refine S8 ?_;refine cZ (fun c2=> ?_) (fun c2=> ?_)
  ·have hlt:i<l.length:=Om
   have hqo:=hok _ (Hz hlt)
   obtain ⟨q1,q2⟩ :=jgD hqo
   obtain ⟨d1,d2,d3,d4⟩ :=jho (p:= (nt l k).e) hqo
   obtain ⟨⟨e1,e2⟩,⟨e3,e4⟩,⟨e5,e6⟩,e7,e8⟩ :=id hqo
   have hn1:=xL (s:=false) hlt
   have hn2:=xL (s:=true) hlt
   simp only [V6,if_true,jkm,if_false] at hn1 hn2
   refine S11 ?_;refine cZ (fun c3=> ?_) (fun c3=> ?_)
   ·refine S9 ?_
    exact qf hL1 (i+1) Om Om ⟨vi (by rw [show i=k by omega,R6]),vi (by rw [show i=k by omega,R6]),vi Om,sz⟩ (u9 J)
   ·have hik:i≠k:=Om
    refine S6 ?_;refine a9 (qQ (j:=i) (fun w hs=>Qr hr hs.fin) J J J JI hlt) ?_;refine S2 ?_;refine a9 (jl J J jk J (xy [.int .i64 (nt l i).e.ax, .int .i64 (nt l i).e.ay] 0 (fun w hs=>Qr hr hs.fin) hlt Om (Xr J J))) ?_;refine a9 (jM Yi J J (fun w1 hs=>EO (lA (nt l i).e) w1 q1)) ?_;refine S1 ?_;refine aL (fun b3=> ?_);refine N7 ?_;refine a9 (qQ (j:=i) (fun w hs=>Qr hr hs.fin) J J J JI hlt) ?_;refine S2 ?_;refine a9 (jl J J jk J (xy [.int .i64 (nt l i).e.bx, .int .i64 (nt l i).e.b_y] 2 (fun w hs=>Qr hr hs.fin) hlt Om (Xr J J))) ?_;refine a9 (jM Yi J J (fun w1 hs=>EO (lB (nt l i).e) w1 q2)) ?_;refine S1 ?_;refine aL (fun b4=> ?_);refine N3 ?_;refine uB [] ([.cel b1 147 [.int .i64 (nt l k).e.ax, .int .i64 (nt l k).e.ay, .int .i64 (nt l k).e.bx, .int .i64 (nt l k).e.b_y], .cel b2 28 [.int .i64 (LH (nt l k).e).1, .int .i64 (LH (nt l k).e).2], .cel b3 28 [.int .i64 (Dd (nt l k).e (nt l i).e).ax, .int .i64 (Dd (nt l k).e (nt l i).e).ay], .cel b4 28 [.int .i64 (Dd (nt l k).e (nt l i).e).bx, .int .i64 (Dd (nt l k).e (nt l i).e).b_y]]) (kK [0,1,4,5,7,8,9,10,11,34,35,36,37,40,41,42,43,44,45,46,47,48,49,12,50,51,52,53,54,55,56,13]) (fun L h_t57=> ?_) ?_
    ·refine S4 ?_;refine cZ (fun c4=> ?_) (fun c4=> ?_)
     ·refine S3 ?_;refine a9 (jM W8 J J (fun w1 hs=>jdU (2* (nt l i).e.ax,2* (nt l i).e.ay) w1 ⟨⟨by simp only;omega,by simp only;omega⟩,by simp only;omega,by simp only;omega⟩)) ?_;refine S5 ?_;refine a9 (jM W8 J J (fun w1 hs=>jdU (2* (nt l i).e.bx,2* (nt l i).e.b_y) w1 ⟨⟨by simp only;omega,by simp only;omega⟩,by simp only;omega,by simp only;omega⟩)) ?_;refine S3 ?_
      exact Jo h_t57 ⟨J,sz⟩ (fun _ h=>h.upto ⟨J,J,by rw [Dd,if_pos c4];rfl,by rw [Dd,if_pos c4];rfl,trivial⟩)
     ·refine S2 ?_
      exact Jo h_t57 ⟨J,sz⟩ (fun _ h=>h.upto ⟨J,J,by rw [Dd,if_neg c4];rfl,by rw [Dd,if_neg c4];rfl,trivial⟩)
    ·refine V1 ?_;refine qt [(62, .bool (F2 (Dd (nt l k).e (nt l i).e) (LH (nt l k).e).1 (LH (nt l k).e).2))] (kK [0,1,4,5,7,8,9,10,11,34,35,36,37,40,41,42,43,44,45,46,47,48,49,12,50,51,52,53,54,55,56,13]) (fun L h_17=> ?_) ?_
     ·refine S7 ?_;refine cV 68 (fun g1=> ?_) (fun g1=> ?_)
      ·refine S12 ?_;refine cV 75 (fun g2=> ?_) (fun g2=> ?_)
       ·refine S7 ?_;refine o9 (jM Qa J J (fun w h=>WJ _ _ _ _ _ _ w d1.1 d1.2 d2.1 d2.2 d3.1 d3.2 d4.1 d4.2 m1.1 m1.2 m2.1 m2.2)) ?_;refine S5 ?_
        exact Jo h_17 ⟨vb (by simp [F2, *]),sz⟩ (u9 J)
       ·refine S8 ?_
        exact Jo h_17 ⟨vb (by symm;simp [F2];omega),sz⟩ (u9 J)
      ·refine S15 ?_
       exact Jo h_17 ⟨vb (by symm;simp [F2];omega),sz⟩ (u9 J)
     ·refine v9 ?_;refine cZ (fun c5=> ?_) (fun c5=> ?_)
      ·refine S5 ?_;refine a9 (qQ (j:=i) (fun w hs=>Qr hr hs.fin) J J J JI hlt) ?_;refine S1 ?_;refine a9 (jo J J ju (Xj (i:=4) (fun w hs=>Qr hr hs.fin) hlt Om J)) ?_;refine S7 ?_;refine a9 (qQ (j:=i) (fun w hs=>Qr hr hs.fin) J J J JI hlt) ?_;refine S1 ?_;refine a9 (jo J J ju (Xj (i:=5) (fun w hs=>Qr hr hs.fin) hlt Om J)) ?_;refine S11 ?_
       exact qf hL1 (i+1) Om Om ⟨vi (jbN (s:=false) hik c5),vi (jbN (s:=true) hik c5),vi Om,sz⟩ (u9 J)
      ·refine qt [(96, .bool (uz (Dd (nt l k).e (nt l i).e) (LH (nt l k).e).1 (LH (nt l k).e).2))] (kK [0,1,4,5,7,8,9,10,11,34,35,36,37,40,41,42,43,44,45,46,47,48,49,12,50,51,52,53,54,55,56,13,62]) (fun L h_20=> ?_) ?_
       ·refine S7 ?_;refine cV 102 (fun g3=> ?_) (fun g3=> ?_)
        ·refine S12 ?_;refine cV 109 (fun g4=> ?_) (fun g4=> ?_)
         ·refine S7 ?_;refine o9 (jM Qa J J (fun w h=>WJ _ _ _ _ _ _ w d1.1 d1.2 d2.1 d2.2 d3.1 d3.2 d4.1 d4.2 m1.1 m1.2 m2.1 m2.2)) ?_;refine S5 ?_
          exact Jo h_20 ⟨vb (by simp [uz, *]),sz⟩ (u9 J)
         ·refine S8 ?_
          exact Jo h_20 ⟨vb (by symm;simp [uz];omega),sz⟩ (u9 J)
        ·refine S15 ?_
         exact Jo h_20 ⟨vb (by symm;simp [uz];omega),sz⟩ (u9 J)
       ·refine v9 ?_;refine cZ (fun c6=> ?_) (fun c6=> ?_)
        ·refine S5 ?_;refine a9 (qQ (j:=i) (fun w hs=>Qr hr hs.fin) J J J JI hlt) ?_;refine S1 ?_;refine a9 (jo J J ju (Xj (i:=4) (fun w hs=>Qr hr hs.fin) hlt Om J)) ?_;refine S7 ?_;refine a9 (qQ (j:=i) (fun w hs=>Qr hr hs.fin) J J J JI hlt) ?_;refine S1 ?_;refine a9 (jo J J ju (Xj (i:=5) (fun w hs=>Qr hr hs.fin) hlt Om J)) ?_;refine S11 ?_
         exact qf hL1 (i+1) Om Om ⟨vi (R5 (s:=false) hik c5 c6),vi (R5 (s:=true) hik c5 c6),vi Om,sz⟩ (u9 J)
        ·refine S9 ?_
         exact qf hL1 (i+1) Om Om ⟨vi (R7 (s:=false) hik c5 c6),vi (R7 (s:=true) hik c5 c6),vi Om,sz⟩ (u9 J)
  ·have hin:i=l.length:=Om
   refine S13 ?_;refine qh J (.tmp J) (.tmp J) ?_
   intro w' hs
   exact⟨by rw [hin],hs.fin⟩
def sdN (l:List Nt) (k:Nat) :Nt:= {nt l k with l1:=QG false l k l.length+ (nt l k).one,l2:=QG true l k l.length+ (nt l k).two}
def uy (l:List Nt) (i:Nat) :List Nt:= (List.range l.length).map fun k=>if k<i then sdN l k else nt l k
theorem Ra (l:List Nt) (i:Nat) : (uy l i).length=l.length:=by simp [uy]
theorem PG (h:k<l.length) :nt (uy l i) k=if k<i then sdN l k else nt l k:=by
 simp [nt,uy,List.getD,List.getElem?_map,List.getElem?_range h]
theorem EA (h:k<l.length) : (nt (uy l i) k).e= (nt l k).e∧(∀s,V6 s (nt (uy l i) k) =V6 s (nt l k)) :=by
 rw [PG h]
 split
 ·exact⟨rfl,fun s=>by cases s<;>rfl⟩
 ·exact⟨rfl,fun s=>rfl⟩
theorem CR (l:List Nt) :l= (List.range l.length).map (nt l) :=by
 refine jkC (by simp) fun k h1 h2=> ?_
 simp only [jkx,jkY]
 exact zQ h1
theorem jd3 (l:List Nt) :uy l 0=l:=by
 conv=>rhs;rw [CR l]
 simp [uy]
theorem jd2 (h:i<l.length) :uy l (i+1) = (uy l i).set i (sdN l i) :=by
 refine jkC (by simp [uy]) fun k h1 h2=> ?_
 rw [List.getElem_set]
 simp only [uy,jkx,jkY]
 by_cases e:i=k
 ·subst e;rw [if_pos Om,if_pos rfl]
 ·rw [if_neg e]
  by_cases c:k<i
  ·rw [if_pos c,if_pos Om]
  ·rw [if_neg c,if_neg Om]
theorem wV {α β:Type} (f:β→Int) (g:α→β) :∀l:List α,sm f (l.map g) =sm (fun x=>f (g x)) l
 | [] =>rfl
 | x::l=>by simp only [jjF,sm,wV f g l]
theorem jiI (l:List Nt) (i:Nat) (t:Bool) :aS t (uy l i) =aS t l:=by
 have e:∀m:List Nt,aS t m=sm (fun k=>xf (V6 t (nt m k))) (List.range m.length) :=fun m=>by
  conv=>lhs;rw [CR m]
  unfold aS
  rw [wV]
 rw [e,e l,Ra]
 exact J0 fun k hk=>by rw [(EA (jko.1 hk)).2]
theorem I9 {l:List Nt} {i k:Nat} (hk:k<l.length) (s:Bool) :∀j,j≤l.length→QG s (uy l i) k j=QG s l k j
 | 0,_=>rfl
 | j+1,h=>by rw [QG,QG,I9 hk s j Om,(EA (show j<l.length by omega)).1,(EA (show j<l.length by omega)).2,(EA hk).1]
theorem jhX (h:∀y∈l,qM y.e) :∀y∈uy l i,qM y.e:=fun y hy=>by
 obtain ⟨k,hk,rfl⟩ :=jjx.1 hy
 have hk:=jko.1 hk
 split
 ·exact(show qM (nt l k).e from h _ (Hz hk))
 ·exact h _ (Hz hk)
def Uy (l:List Nt) :List Nt:=uy l l.length
theorem jiL (h:k<l.length) (he:nt l k=e) :qP (l.flatMap qo) (0+k*8+6) [.int .i64 v] = (l.set k {e with l1:=v}).flatMap qo:=by
 subst he
 exact yk qo kH (IW h) (Ji (nt l k).e++ [.int .i64 (nt l k).one, .int .i64 (nt l k).two]) [.int .i64 (nt l k).l1] [.int .i64 v] [.int .i64 (nt l k).l2] (by simp [qo]) (by simp [qo]) rfl (by simp [Ji])
theorem jiM (h:k<l.length) (he:nt l k=e) :qP (l.flatMap qo) (0+k*8+7) [.int .i64 v] = (l.set k {e with l2:=v}).flatMap qo:=by
 subst he
 exact yk qo kH (IW h) (Ji (nt l k).e++ [.int .i64 (nt l k).one, .int .i64 (nt l k).two, .int .i64 (nt l k).l1]) [.int .i64 (nt l k).l2] [.int .i64 v] [] (by simp [qo]) (by simp [qo]) rfl (by simp [Ji])
theorem jhE (h:k<l.length) :nt (l.set k e) k=e:=by simp [nt,List.getD,h]
theorem IA (l:List Nt) (x:Option Addr×Nat) (w:World) (hr: (RH l x).P w) (hok:∀y∈l,qM y.e) (hl:l.length≤16384) (ha:∀t,aS t l≤16384) :
  Calls Tryz.prog 187 #[.slice x.1 l.length x.2] w fun e w'=>e= .returned (.tuple #[])∧Wrs (RH l x).F w w'∧(J3 0 262 8 l.length ((Uy l).flatMap qo) x).P w':=by
 refine Vy (m:=39) (jaW x) (RH l x) (hr) (fun b hb=>HY.1 hb) J (Tryz.func187) J J (lb J) ?_;refine S5 ?_;refine JX (X:=Nat) (fun i=>i≤l.length) (fun i=>l.length- i) (fun i=> [(2, .int .i64 (i:Int))]) (kK [0]) (fun i=> [J3 0 262 8 l.length ((uy l i).flatMap qo) x]) 0 (jjo _) ⟨J,sz⟩ (fun _ h=>by rw [jd3];exact h) ?_
 intro i hi L hL1
 refine v9 ?_;refine r9 ?_
 obtain ⟨M,hM⟩ :∃M,M=uy l i:=⟨_,rfl⟩
 have hMl:M.length=l.length:= (by rw [hM];exact Ra l i)
 have hMa:∀t,aS t M≤16384:= (fun t=>by rw [hM,jiI];exact ha t)
 have hMo:∀y∈M,qM y.e:= (by rw [hM];exact jhX hok)
 rw [←hM]
 refine S8 ?_;refine cZ (fun c1=> ?_) (fun c1=> ?_)
 ·have hlt:i<l.length:=Om
  have hlM:i<M.length:=Om
  have hb1:QG false M i l.length=QG false l i l.length:= (by rw [hM];exact I9 hlt false _ (jjm _))
  have hb2:QG true M i l.length=QG true l i l.length:= (by rw [hM];exact I9 hlt true _ (jjm _))
  have hn:nt M i=nt l i:= (by rw [hM,PG hlt,if_neg Om])
  have hd1:=yW (s:=false) (k:=i) (jjm l.length)
  have hd2:=yW (s:=true) (k:=i) (jjm l.length)
  have hc1:=xL (s:=false) hlt
  have hc2:=xL (s:=true) hlt
  have ha1:=ha false
  have ha2:=ha true
  simp only [V6,if_true,jkm,if_false] at hc1 hc2
  refine S8 ?_;refine a9 (jM Gr J J (fun w1 hs=>by have:=Dw M x i w1 (by have:= (hs.all 0 _ J).1;rw [←hMl] at this;exact this) hlM hMo Om hMa;rw [hMl,hb1,hb2] at this;exact this)) ?_;refine S13 ?_;refine a9 (qQ (j:=i) (fun w hs=> (hs.all 0 _ J).1) J J J JI hlt) ?_;refine S1 ?_;refine a9 (jo J J ju (Xj (i:=4) (v:= .int .i64 (nt l i).one) (fun w hs=> (hs.all 0 _ J).1) hlM Om (by rw [hn];rfl))) ?_;refine S1 ?_;refine a9 (qQ (j:=i) (fun w hs=> (hs.all 0 _ J).1) J J J JI hlt) ?_;refine S2 ?_;refine UT (k:=0) (vs:= [.int .i64 (QG false l i l.length+ (nt l i).one)]) J J J J (by rfl) (by rfl) kY.szx J J (by simp) (by rw [W0 qo 8 kH];simp only [jjr,jjK];omega) ?_;refine n9 ?_
  rw [jiL hlM hn]
  have hlM2:i< (M.set i {nt l i with l1:=QG false l i l.length+ (nt l i).one}).length:= (by rw [jky];exact hlM)
  have hn2:=jhE (e:= {nt l i with l1:=QG false l i l.length+ (nt l i).one}) hlM
  refine S7 ?_;refine a9 (qQ (j:=i) (fun w hs=> (hs.all 0 _ J).1) J J J JI hlt) ?_;refine S1 ?_;refine a9 (jo J J ju (Xj (i:=5) (v:= .int .i64 (nt l i).two) (fun w hs=> (hs.all 0 _ J).1) hlM2 Om (by rw [hn2];rfl))) ?_;refine S1 ?_;refine a9 (qQ (j:=i) (fun w hs=> (hs.all 0 _ J).1) J J J JI hlt) ?_;refine S2 ?_;refine UT (k:=0) (vs:= [.int .i64 (QG true l i l.length+ (nt l i).two)]) J J J J (by rfl) (by rfl) kY.szx J J (by simp) (by rw [W0 qo 8 kH,jky];simp only [jjr,jjK];omega) ?_;refine n9 ?_
  rw [jiM hlM2 hn2,List.set_set]
  refine S8 ?_
  exact Jq hL1 (i+1) Om Om ⟨vi Om,sz⟩ (fun _ h=>h.upto ⟨by rw [jd2 hlt,←hM];rfl,trivial⟩)
 ·have hin:i=l.length:=Om
  refine S4 ?_;refine ky J ?_
  intro w' hs
  exact⟨rfl,hs.over.wrs.mono fun b hb=>HY.2 hb,by have:= (hs.all 0 _ rfl).1;rw [hM,hin] at this;exact this⟩
end Go.Proofs.YtbahojdbmmjkcaaGreat
namespace Go.Proofs.YtbahojdbmmjkcaaGreat
open Go Go.RowKit
variable {X Y:Pn} {es:List Leg} {j:Nat} {r:Option Addr×Nat} {α:Type}
section
variable {w0:Bs} {Rs:List Res}
theorem rdG {f:α→List Value} {m T B q:Nat} {l:List α} {off i:Nat} {a:α} {v:Value} (hf:∀a,(f a).length=m) (hr:∀w,St w0 Rs w→(J3 B T m q (l.flatMap f) r).P w) (ha:l[j]? =some a) (he:off=j*m+i) (hv: (f a)[i]? =some v) :∀w,St w0 Rs w→w.cell? ⟨uo r.1,off,none⟩ =some v:=fun w hs=>by
 refine GH (hr w hs) ?_
 have hi:= (List.getElem?_eq_some_iff.1 hv).1
 obtain ⟨hj,e⟩ :=List.getElem?_eq_some_iff.1 ha
 rw [he,XV f m hf l j i hj (by rw [hf] at hi;exact hi),e]
 exact hv
theorem ji9 {f:α→List Value} {m T B q:Nat} {l:List α} {off:Nat} {a:α} (vs:List Value) (i:Nat) (hf:∀a,(f a).length=m) (hr:∀w,St w0 Rs w→(J3 B T m q (l.flatMap f) r).P w) (ha:l[j]? =some a) (he:off=j*m+i) (hv:∀q v,vs[q]? =some v→(f a)[i+q]? =some v) :∀w,St w0 Rs w→∀q v,vs[q]? =some v→w.cell? ⟨uo r.1,off+q,none⟩ =some v:=fun w hs q v h=>
 rdG hf hr ha Om (hv q v h) w hs
end
theorem jft {l:List Leg} (h:j<l.length) :l[j]? =some (lg l j) :=by rw [List.getElem?_eq_getElem h,ye h]
theorem jhT (B T s:Nat) (w:World) : (J3 B T s 0 [] (none,0)).P w:=World.ownsRow_nil _ _ _ _
theorem y8 {rs:List jO} (h:Jp rs=true) :Fine (jt rs) :=⟨GB h,M8 rs rs.length,fun f=>C7 f rs rs.length⟩
structure Key (es:List Leg) (p:Leg) :Prop where
 ok:qM p
 ne:lA p≠lB p
 ord:¬vG (lB p) (lA p)
theorem SV : (Ko es).length≤es.length:=by
 have:=uA (s:=false) es []
 rw [Ko,jjB]
 simpa using this
theorem TU (l:List Nt) : (Uy l).length=l.length:=Ra l _
theorem EB {l:List Nt} {k:Nat} (h:k<l.length) :nt (Uy l) k=sdN l k:=by rw [Uy,PG h,if_pos h]
theorem jbv (t:Bool) :aS t [] =0:=rfl
theorem YP (b1 o1:Nat) (A:Option Addr) (n c:Nat) (rs:List jO) (w:World) (hes:es=jt rs) (hcell:w.cell? ⟨b1,o1,none⟩ =some (.slice A n c)) (hb1:b1<w.heap.size) (h:Rings w A n rs) (ht: (total rs:Int)≤1048577) :
  Calls Tryz.prog 52 #[.pointer (some ⟨b1,o1,none⟩)] w fun e w'=>∃x:Option Addr×Nat,e= .returned (.slice x.1 es.length x.2)∧Over w w'∧(J3 0 147 4 es.length (es.flatMap Ji) x).P w'∧(∀b,(J3 0 147 4 es.length (es.flatMap Ji) x).F b→w.heap.size≤b)∧(J3 0 147 4 es.length (es.flatMap Ji) x).B=0∧True:=by
 subst hes
 exact Qf ((U2 b1 o1 A n c rs w hcell hb1 h ht).mono fun e w' ⟨v,h1,_,h2,h3⟩ =>⟨v,h1,h2,h3⟩)
def yS (o a:Pn) :Int:=if a.2>o.2∨(a.2=o.2∧a.1>o.1) then 0 else 1
def M9 (o a b:Pn) :Int:=if yS o a≠yS o b then wR (yS o a- yS o b) else-wR (tn o a b)
def GN (v f p q:Pn) :Bool:=if decide (M9 v p f<0)≠decide (M9 v q f<0) then decide (M9 v p f<0) else decide (0<M9 v p q)
def cwH (o b p:Pn) :Int:=if tn o b p<0 then 0 else if tn o b p=0 then 1 else 2
def cwF (o b p q:Pn) :Bool:=if cwH o b p≠cwH o b q then decide (cwH o b p<cwH o b q) else decide (tn o p q<0)
def UB (v p q:Pn) :Prop:=tn v p q=0∧0< (p.1- v.1) * (q.1- v.1) + (p.2- v.2) * (q.2- v.2)
theorem jbD (o a b:Pn) :M9 o a b<0↔yS o a<yS o b∨(yS o a=yS o b∧0<tn o a b) :=by
 have h1:=Uq (yS o a- yS o b)
 have h2:=Uq (tn o a b)
 unfold M9
 split<;>omega
theorem xD (o a b:Pn) :0<M9 o a b↔yS o b<yS o a∨(yS o a=yS o b∧tn o a b<0) :=by
 have h1:=Uq (yS o a- yS o b)
 have h2:=Uq (tn o a b)
 unfold M9
 split<;>omega
def Df (X:Pn) :Prop:=0<X.2∨(X.2=0∧0<X.1)
def zH (X Y:Pn) :Int:=X.1*Y.2- X.2*Y.1
theorem LN {a b p:Int} (h:p=a*b) : (0<a∧0<b∧0<p)∨(0<a∧b<0∧p<0)∨(a<0∧0<b∧p<0)∨(a<0∧b<0∧0<p)∨(a=0∧p=0)∨(b=0∧p=0) :=Z6 h
theorem Yy {Z:Pn} (hX:Df X) (hY:Df Y) (hZ:Df Z) (h1:0≤zH X Y) (h2:0≤zH Y Z) :0≤zH X Z∧((0<zH X Y∨0<zH Y Z)→0<zH X Z) :=by
 have id1:Y.2*zH X Z=X.2*zH Y Z+Z.2*zH X Y:=by unfold zH;grind
 have e1:zH X Y=X.1*Y.2- X.2*Y.1:=rfl
 have e2:zH Y Z=Y.1*Z.2- Y.2*Z.1:=rfl
 have e3:zH X Z=X.1*Z.2- X.2*Z.1:=rfl
 have x0:0≤X.2:=by unfold Df at hX;omega
 have z0:0≤Z.2:=by unfold Df at hZ;omega
 by_cases hy:0<Y.2
 ·have b1:=LN (a:=Y.2) (b:=zH X Z) rfl
  have b2:=jjD x0 h2
  have b3:=jjD z0 h1
  have hz:0<Z.2:=by
   refine Int.not_le.1 fun hz=> ?_
   have z1:Z.2=0:=by omega
   have z2:0<Z.1:=by unfold Df at hZ;omega
   have:=jjZ hy z2
   rw [z1,jkT] at e2
   omega
  refine⟨by omega,fun h=> ?_⟩
  have c1:0<zH X Y∨0<X.2:=by
   by_cases hx:0<X.2
   ·exact .inr hx
   ·have x1:X.2=0:=by omega
    have x2:0<X.1:=by unfold Df at hX;omega
    have:=jjZ x2 hy
    rw [x1,jkd] at e1
    exact .inl Om
  have c2:0<X.2*zH Y Z+Z.2*zH X Y:=by
   by_cases k:0<zH X Y
   ·have:=jjZ hz k;omega
   ·have:=jjZ (c1.resolve_left k) (h.resolve_left k);omega
  omega
 ·have y1:Y.2=0:=by unfold Df at hY;omega
  have y2:0<Y.1:=by unfold Df at hY;omega
  rw [y1,jkT] at e1
  rw [y1,jkd] at e2
  have m1:=LN (a:=X.2) (b:=Y.1) rfl
  have x1:X.2=0:=by omega
  have x2:0<X.1:=by unfold Df at hX;omega
  rw [x1,jkd] at e3
  have m2:=LN (a:=X.1) (b:=Z.2) rfl
  have m3:=LN (a:=Y.1) (b:=Z.2) rfl
  rw [x1,jkd] at e1
  exact⟨by omega,fun h=>by omega⟩
theorem Zb (X Y:Pn) :zH Y X= -zH X Y:=by unfold zH;grind
theorem ZP {v p:Pn} (h:p≠v) :∃X:Pn,Df X∧((yS v p=0∧X= (p.1- v.1,p.2- v.2))∨(yS v p=1∧X= (v.1- p.1,v.2- p.2))) :=by
 by_cases k:p.2>v.2∨(p.2=v.2∧p.1>v.1)
 ·refine⟨(p.1- v.1,p.2- v.2),?_, .inl ⟨if_pos k,J⟩⟩
  unfold Df
  simp only
  omega
 ·refine⟨(v.1- p.1,v.2- p.2),?_, .inr ⟨if_neg k,J⟩⟩
  have:¬(p.1=v.1∧p.2=v.2) :=fun e=>h (Prod.ext e.1 e.2)
  unfold Df
  simp only
  omega
theorem jgv (hX:Df X) (hY:Df Y) (h:zH X Y=0) :0<X.1*Y.1+X.2*Y.2:=by
 have e1:zH X Y=X.1*Y.2- X.2*Y.1:=rfl
 have a1:=LN (a:=X.1) (b:=Y.2) rfl
 have a2:=LN (a:=X.2) (b:=Y.1) rfl
 have a3:=LN (a:=X.1) (b:=Y.1) rfl
 have a4:=LN (a:=X.2) (b:=Y.2) rfl
 unfold Df at hX hY
 generalize X.1*Y.2=p1 at*
 generalize X.2*Y.1=p2 at*
 generalize X.1*Y.1=p3 at*
 generalize X.2*Y.2=p4 at*
 omega
structure Tri (a b c:Int) :Prop where
 t1:0≤a→0≤c→0≤b∧((0<a∨0<c)→0<b)
 t2:0≤b→0≤-c→0≤a∧((0<b∨0< -c)→0<a)
 t3:0≤-a→0≤b→0≤c∧((0< -a∨0<b)→0<c)
 t4:0≤c→0≤-b→0≤-a∧((0<c∨0< -b)→0< -a)
 t5:0≤-b→0≤a→0≤-c∧((0< -b∨0<a)→0< -c)
 t6:0≤-c→0≤-a→0≤-b∧((0< -c∨0< -a)→0< -b)
theorem jeq {F P Q:Pn} (hF:Df F) (hP:Df P) (hQ:Df Q) :Tri (zH F P) (zH F Q) (zH P Q) :=by
 have f1:=Zb F P
 have f2:=Zb F Q
 have f3:=Zb P Q
 have u1:=Yy hF hP hQ
 have u2:=Yy hF hQ hP
 have u3:=Yy hP hF hQ
 have u4:=Yy hP hQ hF
 have u5:=Yy hQ hF hP
 have u6:=Yy hQ hP hF
 rw [f3] at u2
 rw [f1] at u3
 rw [f1,f2] at u4
 rw [f2,f3] at u5
 rw [f1,f2,f3] at u6
 exact⟨u1,u2,u3,u4,u5,u6⟩
theorem jh0 (v p q:Pn) :tn v p q=zH (p.1- v.1,p.2- v.2) (q.1- v.1,q.2- v.2) :=by simp only [tn,Q0,zH]
theorem jch (a b c d e f:Int) :zH (a- b,c- d) (e,f) = -zH (b- a,d- c) (e,f) :=by unfold zH;grind
theorem jci (a b c d e f:Int) :zH (e,f) (a- b,c- d) = -zH (e,f) (b- a,d- c) :=by unfold zH;grind
theorem u7 {v p q:Pn} (hX: (yS v p=0∧X= (p.1- v.1,p.2- v.2))∨(yS v p=1∧X= (v.1- p.1,v.2- p.2))) (hY: (yS v q=0∧Y= (q.1- v.1,q.2- v.2))∨(yS v q=1∧Y= (v.1- q.1,v.2- q.2))) :
  (yS v p=yS v q∧tn v p q=zH X Y)∨(yS v p≠yS v q∧tn v p q= -zH X Y) :=by
 rw [jh0]
 rcases hX with⟨h1,rfl⟩ |⟨h1,rfl⟩ <;>rcases hY with⟨h2,rfl⟩ |⟨h2,rfl⟩
 ·exact .inl ⟨by omega,rfl⟩
 ·exact .inr ⟨by omega,by rw [jci]⟩
 ·exact .inr ⟨by omega,by rw [jch]⟩
 ·exact .inl ⟨by omega,by rw [jch,jci];omega⟩
theorem Gg {v p q:Pn} (hX:Df X) (hY:Df Y) (h1: (yS v p=0∧X= (p.1- v.1,p.2- v.2))∨(yS v p=1∧X= (v.1- p.1,v.2- p.2))) (h2: (yS v q=0∧Y= (q.1- v.1,q.2- v.2))∨(yS v q=1∧Y= (v.1- q.1,v.2- q.2))) (h:¬UB v p q) :¬(yS v p=yS v q∧zH X Y=0) :=fun ⟨k1,k2⟩ =>by
 have hs:=jgv hX hY k2
 have hd:=u7 h1 h2
 refine h ⟨by omega,?_⟩
 rcases h1 with⟨h1,rfl⟩ |⟨h1,rfl⟩ <;>rcases h2 with⟨h2,rfl⟩ |⟨h2,rfl⟩
 ·exact hs
 ·omega
 ·omega
 ·simp only at hs
  have e1: (v.1- p.1) * (v.1- q.1) = (p.1- v.1) * (q.1- v.1) :=by grind
  have e2: (v.2- p.2) * (v.2- q.2) = (p.2- v.2) * (q.2- v.2) :=by grind
  rw [e1,e2] at hs
  exact hs
theorem zk (o a:Pn) :yS o a=0∨yS o a=1:=by unfold yS;split<;>simp
theorem GO (v f p q:Pn) :GN v f p q=true↔((M9 v p f<0∧¬M9 v q f<0)∨((M9 v p f<0↔M9 v q f<0)∧0<M9 v p q)) :=by
 unfold GN
 by_cases h1:M9 v p f<0<;>by_cases h2:M9 v q f<0<;>simp [h1,h2]
theorem je7 (o b p q:Pn) :cwF o b p q=true↔(cwH o b p<cwH o b q∨(cwH o b p=cwH o b q∧tn o p q<0)) :=by
 unfold cwF
 split
 ·rw [decide_eq_true_iff];omega
 ·rw [decide_eq_true_iff];omega
set_option maxHeartbeats 4000000 in
theorem je8 {g1 g2 g3 a b c z4 z5 z3:Int} (hT:Tri a b c) (b1:g1=0∨g1=1) (b2:g2=0∨g2=1) (b3:g3=0∨g3=1) (d4: (g1=g2∧z4=a)∨(g1≠g2∧z4= -a)) (d5: (g1=g3∧z5=b)∨(g1≠g3∧z5= -b)) (d3: (g2=g3∧z3=c)∨(g2≠g3∧z3= -c)) (n1:¬(g2=g1∧a=0)) (n2:¬(g3=g1∧b=0)) (n3:¬(g2=g3∧c=0)) :
  ((if z4<0 then(0:Int) else if z4=0 then 1 else 2) < (if z5<0 then 0 else if z5=0 then 1 else 2)∨(if z4<0 then(0:Int) else if z4=0 then 1 else 2) = (if z5<0 then 0 else if z5=0 then 1 else 2)∧z3<0)↔
   ((g2<g1∨(g2=g1∧0< -z4))∧¬(g3<g1∨(g3=g1∧0< -z5)))∨(((g2<g1∨(g2=g1∧0< -z4))↔(g3<g1∨(g3=g1∧0< -z5)))∧(g3<g2∨(g2=g3∧z3<0))) :=by
 have e4:z4=if g1=g2 then a else-a:=by split<;>omega
 have e5:z5=if g1=g3 then b else-b:=by split<;>omega
 have e3:z3=if g2=g3 then c else-c:=by split<;>omega
 clear d4 d5 d3
 rcases jj4 a 0 with c1 | c1 | c1<;>rcases jj4 b 0 with c2 | c2 | c2<;>rcases jj4 c 0 with c3 | c3 | c3<;>
  first
  | exact absurd (hT.t1 Om Om).1 Om
  | exact absurd ((hT.t1 Om Om).2 Om) Om
  | exact absurd (hT.t2 Om Om).1 Om
  | exact absurd ((hT.t2 Om Om).2 Om) Om
  | exact absurd (hT.t3 Om Om).1 Om
  | exact absurd ((hT.t3 Om Om).2 Om) Om
  | exact absurd (hT.t4 Om Om).1 Om
  | exact absurd ((hT.t4 Om Om).2 Om) Om
  | exact absurd (hT.t5 Om Om).1 Om
  | exact absurd ((hT.t5 Om Om).2 Om) Om
  | exact absurd (hT.t6 Om Om).1 Om
  | exact absurd ((hT.t6 Om Om).2 Om) Om
  | (clear hT;rcases b1 with rfl | rfl<;>rcases b2 with rfl | rfl<;>rcases b3 with rfl | rfl<;>simp at e4 e5 e3 n1 n2 n3<;>subst e4 e5 e3<;> (repeat' split) <;>omega)
theorem jha {v f p q:Pn} (hf:f≠v) (hp:p≠v) (hq:q≠v) (h1:¬UB v p f) (h2:¬UB v q f) (h3:¬UB v p q) :cwF v f p q=GN v f p q:=by
 obtain ⟨F,uF,kF⟩ :=ZP hf
 obtain ⟨P,uP,kP⟩ :=ZP hp
 obtain ⟨Q,uQ,kQ⟩ :=ZP hq
 have n1:=Gg uP uF kP kF h1
 have n2:=Gg uQ uF kQ kF h2
 have n3:=Gg uP uQ kP kQ h3
 have f1:tn v p f= -tn v f p:=by simp only [tn,Q0];grind
 have f2:tn v q f= -tn v f q:=by simp only [tn,Q0];grind
 rw [Zb F P] at n1
 rw [Zb F Q] at n2
 have:=je8 (jeq uF uP uQ) (zk v f) (zk v p) (zk v q) (u7 kF kP) (u7 kF kQ) (u7 kP kQ) (fun h=>n1 ⟨h.1,by omega⟩) (fun h=>n2 ⟨h.1,by omega⟩) n3
 rw [jjT,je7,GO,jbD,jbD,xD,f1,f2]
 exact this
end Go.Proofs.YtbahojdbmmjkcaaGreat
