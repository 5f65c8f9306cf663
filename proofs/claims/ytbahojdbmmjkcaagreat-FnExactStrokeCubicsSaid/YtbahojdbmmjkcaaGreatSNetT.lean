import Derived.Test.YtbahojdbmmjkcaaGreatSNetS
import Derived.Test.YtbahojdbmmjkcaaGreatSCross
set_option linter.unusedVariables false
set_option linter.unusedSimpArgs false
namespace Go.Proofs.YtbahojdbmmjkcaaGreat
open Go Go.RowKit
variable {e:Nt} {i k:Nat} {l:List Nt} {s:Bool} {v:Int}
set_option maxRecDepth 100000
set_option maxHeartbeats 4000000
theorem jhO (p q:Pn) (w:World) (hp:bd2 p) (hq:bd2 q) :Calls Tryz.prog 267 #[pV p,pV q] w fun e w'=>e= .returned (pV (p.1+q.1,p.2+q.2))∧Over w w':=by
 obtain ⟨⟨a1,a2⟩,a3,a4⟩ :=hp;obtain ⟨⟨b1,b2⟩,b3,b4⟩ :=hq
 refine jK (m:=16) (Tryz.func267) J J (lb J) ?_;refine S3 ?_;refine aX (fun b1=> ?_);refine N1 ?_;refine aX (fun b2=> ?_);refine N1 ?_;refine aL (fun b3=> ?_);refine N13 ?_;refine a9 (JF J J (Qi J J)) ?_;refine S4 ?_;refine jJ J (JZ (k:=2) J jj J J) ?_
 intro w' hs
 exact⟨rfl,hs.fin⟩
theorem Ew (p:Pn) (w:World) (hp:bd2 p) :Calls Tryz.prog 242 #[pV p, .int .i64 2] w fun e w'=>e= .returned (pV (2*p.1,2*p.2))∧Over w w':=by
 obtain ⟨⟨a1,a2⟩,a3,a4⟩ :=hp
 refine jK (m:=14) (Tryz.func242) J J (lb J) ?_;refine S3 ?_;refine aX (fun b1=> ?_);refine N1 ?_;refine aL (fun b2=> ?_);refine N11 ?_;refine a9 (JF J J (Qi J J)) ?_;refine S4 ?_;refine jJ J (JZ (k:=1) J jj J J) ?_
 intro w' hs
 exact⟨by rw [jiW p.1,jiW p.2],hs.fin⟩
theorem jdj (p:Pn) (w:World) (hp:YY p.1∧YY p.2) :Calls Tryz.prog 268 #[pV p] w fun e w'=>e= .returned (pV (-p.2,p.1))∧Over w w':=by
 obtain ⟨⟨a1,a2⟩,a3,a4⟩ :=hp
 refine jK (m:=9) (Tryz.func268) J J (lb J) ?_;refine S3 ?_;refine aX (fun b1=> ?_);refine N1 ?_;refine aL (fun b2=> ?_);refine N5 ?_;refine a9 (uv J J Om Om) ?_;refine S2 ?_;refine a9 (JF J J (Qi J J)) ?_;refine S4 ?_;refine jJ J (JZ (k:=1) J jj J J) ?_
 intro w' hs
 exact⟨rfl,hs.fin⟩
def HY (p:Leg) :Pn:=if p.ay=p.b_y then(-(Wh p),wW p) else(wW p,Wh p)
def BK (p q:Leg) :Leg:=if p.ay=p.b_y then ZJ (vF true q) else vF true q
theorem Nh (p q:Leg) :BR p q=KE (BK p q) (HY p).1 (HY p).2:=by
 unfold BR BK HY
 split<;>rfl
theorem jgC {p:Leg} (h:qU p) :YY (HY p).1∧YY (HY p).2:=by
 obtain ⟨⟨a1,a2⟩,⟨a3,a4⟩,⟨b1,b2⟩,b3,b4⟩ :=h
 unfold HY wW Wh
 split
 ·refine⟨⟨?_,?_⟩,?_,?_⟩ <;> (simp only;omega)
 ·refine⟨⟨?_,?_⟩,?_,?_⟩ <;> (simp only;omega)
theorem jgu {p q:Leg} (h:qU q) :YY (BK p q).ax∧YY (BK p q).ay∧YY (BK p q).bx∧YY (BK p q).b_y:=by
 obtain ⟨h1,h2,h3,h4⟩ :=Cf true h
 unfold BK ZJ YY at*
 split
 ·simp only;omega
 ·exact⟨h1,h2,h3,h4⟩
theorem jfH {l:Leg} (h:qU l) :bd2 (lA l)∧bd2 (lB l) :=⟨⟨h.1,h.2.1⟩,h.2.2.1,h.2.2.2⟩
theorem RP :QE s l k (k+1) =QE s l k k:=by simp [QE]
theorem jbs (h:i≠k) (hu:wUp (BK (nt l k).e (nt l i).e) (HY (nt l k).e).1 (HY (nt l k).e).2=true) :QE s l k i+Vm s (nt l i) =QE s l k (i+1) :=by
 rw [QE,if_neg h,Nh,KE,if_pos hu,jjG]
theorem RO (h:i≠k) (hu:wUp (BK (nt l k).e (nt l i).e) (HY (nt l k).e).1 (HY (nt l k).e).2=false) (hd:YI (BK (nt l k).e (nt l i).e) (HY (nt l k).e).1 (HY (nt l k).e).2=true) :QE s l k i- Vm s (nt l i) =QE s l k (i+1) :=by
 rw [QE,if_neg h,Nh,KE,hu,if_neg (by simp),if_pos hd,Int.mul_neg,jjG]
 omega
theorem RQ (h:i≠k) (hu:wUp (BK (nt l k).e (nt l i).e) (HY (nt l k).e).1 (HY (nt l k).e).2=false) (hd:YI (BK (nt l k).e (nt l i).e) (HY (nt l k).e).1 (HY (nt l k).e).2=false) :QE s l k i=QE s l k (i+1) :=by
 rw [QE,if_neg h,Nh,KE,hu,if_neg (by simp),hd,if_neg (by simp),Int.mul_zero,Int.add_zero]
theorem B8 (l:List Nt) (x:Option Addr×Nat) (k:Nat) (w:World) (hr: (Rx l x).P w) (hk:k<l.length) (hok:∀y∈l,qU y.e) (hl:l.length≤16384) (ha:∀t,aS t l≤16384) :
  Calls Tryz.prog 235 #[.slice x.1 l.length x.2, .int .i64 (k:Int)] w fun e w'=>e= .returned (.tuple #[.int .i64 (QE false l k l.length), .int .i64 (QE true l k l.length)])∧Over w w':=by
 have hpo:=hok _ (GF hk)
 obtain ⟨m1,m2⟩ :=jgC hpo
 obtain ⟨⟨a1,a2⟩,⟨a3,a4⟩,⟨b1',b2'⟩,b3',b4'⟩ :=id hpo
 obtain ⟨hp1,hp2⟩ :=jfH hpo
 obtain ⟨p,hp⟩ :∃p,p= (nt l k).e:=⟨_,rfl⟩
 refine jK (m:=132) (Tryz.func235) J J (lb J) ?_;refine S9 ?_;refine a9 (qM (j:=k) (fun w hs=>Qn hr hs.fin) J J J JM hk) ?_;refine S1 ?_;refine a9 (jk J J KG J (ZX [.int .i64 (nt l k).e.ax, .int .i64 (nt l k).e.ay, .int .i64 (nt l k).e.bx, .int .i64 (nt l k).e.b_y] 0 (fun w hs=>Qn hr hs.fin) hk Om (LV J J J J))) ?_;refine S1 ?_;refine aL (fun b1=> ?_);refine N20 ?_;refine a9 (jG zI J J (fun w1 hs=>jhO (lA (nt l k).e) (lB (nt l k).e) w1 hp1 hp2)) ?_;refine S1 ?_;refine aL (fun b2=> ?_);refine N3 ?_;refine WR [] ([.cel b1 147 [.int .i64 (nt l k).e.ax, .int .i64 (nt l k).e.ay, .int .i64 (nt l k).e.bx, .int .i64 (nt l k).e.b_y], .cel b2 28 [.int .i64 (HY (nt l k).e).1, .int .i64 (HY (nt l k).e).2]]) (kK [0,1,4,5,7,8]) (fun L h_t31=> ?_) ?_
 ·refine S4 ?_;refine cZ (fun c1=> ?_) (fun c1=> ?_)
  ·refine S2 ?_;refine a9 (jG Wp J J (fun w1 hs=>jdj (wW (nt l k).e,Wh (nt l k).e) w1 ⟨⟨by unfold wW;simp only;omega,by unfold wW;simp only;omega⟩,by unfold Wh;simp only;omega,by unfold Wh;simp only;omega⟩)) ?_;refine S3 ?_
   exact Js h_t31 ⟨J,sz⟩ (fun _ h=>h.upto ⟨J,by rw [HY,if_pos c1],trivial⟩)
  ·refine S2 ?_
   exact Js h_t31 ⟨J,sz⟩ (fun _ h=>h.upto ⟨J,by rw [HY,if_neg c1];rfl,trivial⟩)
 ·refine V14 ?_;refine qj (X:=Nat) (fun i=>i≤l.length) (fun i=>l.length- i) (fun i=> [(9, .int .i64 (QE false l k i)),(10, .int .i64 (QE true l k i)),(11, .int .i64 (i:Int))]) (kK [0,1,4,5,7,8]) 0 (jie _) ⟨J,sz⟩ ?_
  intro i hi L hL1
  refine v9 ?_
  have hb1:=U6 (s:=false) (k:=k) (show i≤l.length from hi)
  have hb2:=U6 (s:=true) (k:=k) (show i≤l.length from hi)
  have ha1:=ha false
  have ha2:=ha true
  refine S8 ?_;refine cZ (fun c2=> ?_) (fun c2=> ?_)
  ·have hlt:i<l.length:=Om
   have hqo:=hok _ (GF hlt)
   obtain ⟨q1,q2⟩ :=jfH hqo
   obtain ⟨d1,d2,d3,d4⟩ :=jgu (p:= (nt l k).e) hqo
   obtain ⟨⟨e1,e2⟩,⟨e3,e4⟩,⟨e5,e6⟩,e7,e8⟩ :=id hqo
   have hn1:=Z8 (s:=false) hlt
   have hn2:=Z8 (s:=true) hlt
   simp only [Vm,if_true,jjb,if_false] at hn1 hn2
   refine S11 ?_;refine cZ (fun c3=> ?_) (fun c3=> ?_)
   ·refine S9 ?_
    exact qa hL1 (i+1) Om Om ⟨vi (by rw [show i=k by omega,RP]),vi (by rw [show i=k by omega,RP]),vi Om,sz⟩ (u9 J)
   ·have hik:i≠k:=Om
    refine S6 ?_;refine a9 (qM (j:=i) (fun w hs=>Qn hr hs.fin) J J J JM hlt) ?_;refine S2 ?_;refine a9 (jk J J jj J (ZX [.int .i64 (nt l i).e.ax, .int .i64 (nt l i).e.ay] 0 (fun w hs=>Qn hr hs.fin) hlt Om (xF J J))) ?_;refine a9 (jG yq J J (fun w1 hs=>Ew (lA (nt l i).e) w1 q1)) ?_;refine S1 ?_;refine aL (fun b3=> ?_);refine N7 ?_;refine a9 (qM (j:=i) (fun w hs=>Qn hr hs.fin) J J J JM hlt) ?_;refine S2 ?_;refine a9 (jk J J jj J (ZX [.int .i64 (nt l i).e.bx, .int .i64 (nt l i).e.b_y] 2 (fun w hs=>Qn hr hs.fin) hlt Om (xF J J))) ?_;refine a9 (jG yq J J (fun w1 hs=>Ew (lB (nt l i).e) w1 q2)) ?_;refine S1 ?_;refine aL (fun b4=> ?_);refine N3 ?_;refine WR [] ([.cel b1 147 [.int .i64 (nt l k).e.ax, .int .i64 (nt l k).e.ay, .int .i64 (nt l k).e.bx, .int .i64 (nt l k).e.b_y], .cel b2 28 [.int .i64 (HY (nt l k).e).1, .int .i64 (HY (nt l k).e).2], .cel b3 28 [.int .i64 (BK (nt l k).e (nt l i).e).ax, .int .i64 (BK (nt l k).e (nt l i).e).ay], .cel b4 28 [.int .i64 (BK (nt l k).e (nt l i).e).bx, .int .i64 (BK (nt l k).e (nt l i).e).b_y]]) (kK [0,1,4,5,7,8,9,10,11,34,35,36,37,40,41,42,43,44,45,46,47,48,49,12,50,51,52,53,54,55,56,13]) (fun L h_t57=> ?_) ?_
    ·refine S4 ?_;refine cZ (fun c4=> ?_) (fun c4=> ?_)
     ·refine S3 ?_;refine a9 (jG Wp J J (fun w1 hs=>jdj (2* (nt l i).e.ax,2* (nt l i).e.ay) w1 ⟨⟨by simp only;omega,by simp only;omega⟩,by simp only;omega,by simp only;omega⟩)) ?_;refine S5 ?_;refine a9 (jG Wp J J (fun w1 hs=>jdj (2* (nt l i).e.bx,2* (nt l i).e.b_y) w1 ⟨⟨by simp only;omega,by simp only;omega⟩,by simp only;omega,by simp only;omega⟩)) ?_;refine S3 ?_
      exact Js h_t57 ⟨J,sz⟩ (fun _ h=>h.upto ⟨J,J,by rw [BK,if_pos c4];rfl,by rw [BK,if_pos c4];rfl,trivial⟩)
     ·refine S2 ?_
      exact Js h_t57 ⟨J,sz⟩ (fun _ h=>h.upto ⟨J,J,by rw [BK,if_neg c4];rfl,by rw [BK,if_neg c4];rfl,trivial⟩)
    ·refine V1 ?_;refine qr [(62, .bool (wUp (BK (nt l k).e (nt l i).e) (HY (nt l k).e).1 (HY (nt l k).e).2))] (kK [0,1,4,5,7,8,9,10,11,34,35,36,37,40,41,42,43,44,45,46,47,48,49,12,50,51,52,53,54,55,56,13]) (fun L h_17=> ?_) ?_
     ·refine S7 ?_;refine cV 68 (fun g1=> ?_) (fun g1=> ?_)
      ·refine S12 ?_;refine cV 75 (fun g2=> ?_) (fun g2=> ?_)
       ·refine S7 ?_;refine o9 (jG Qu J J (fun w h=>uj _ _ _ _ _ _ w d1.1 d1.2 d2.1 d2.2 d3.1 d3.2 d4.1 d4.2 m1.1 m1.2 m2.1 m2.2)) ?_;refine S5 ?_
        exact Js h_17 ⟨vb (by simp [wUp, *]),sz⟩ (u9 J)
       ·refine S8 ?_
        exact Js h_17 ⟨vb (by symm;simp [wUp];omega),sz⟩ (u9 J)
      ·refine S15 ?_
       exact Js h_17 ⟨vb (by symm;simp [wUp];omega),sz⟩ (u9 J)
     ·refine v9 ?_;refine cZ (fun c5=> ?_) (fun c5=> ?_)
      ·refine S5 ?_;refine a9 (qM (j:=i) (fun w hs=>Qn hr hs.fin) J J J JM hlt) ?_;refine S1 ?_;refine a9 (jq J J jt (xz (i:=4) (fun w hs=>Qn hr hs.fin) hlt Om J)) ?_;refine S7 ?_;refine a9 (qM (j:=i) (fun w hs=>Qn hr hs.fin) J J J JM hlt) ?_;refine S1 ?_;refine a9 (jq J J jt (xz (i:=5) (fun w hs=>Qn hr hs.fin) hlt Om J)) ?_;refine S11 ?_
       exact qa hL1 (i+1) Om Om ⟨vi (jbs (s:=false) hik c5),vi (jbs (s:=true) hik c5),vi Om,sz⟩ (u9 J)
      ·refine qr [(96, .bool (YI (BK (nt l k).e (nt l i).e) (HY (nt l k).e).1 (HY (nt l k).e).2))] (kK [0,1,4,5,7,8,9,10,11,34,35,36,37,40,41,42,43,44,45,46,47,48,49,12,50,51,52,53,54,55,56,13,62]) (fun L h_20=> ?_) ?_
       ·refine S7 ?_;refine cV 102 (fun g3=> ?_) (fun g3=> ?_)
        ·refine S12 ?_;refine cV 109 (fun g4=> ?_) (fun g4=> ?_)
         ·refine S7 ?_;refine o9 (jG Qu J J (fun w h=>uj _ _ _ _ _ _ w d1.1 d1.2 d2.1 d2.2 d3.1 d3.2 d4.1 d4.2 m1.1 m1.2 m2.1 m2.2)) ?_;refine S5 ?_
          exact Js h_20 ⟨vb (by simp [YI, *]),sz⟩ (u9 J)
         ·refine S8 ?_
          exact Js h_20 ⟨vb (by symm;simp [YI];omega),sz⟩ (u9 J)
        ·refine S15 ?_
         exact Js h_20 ⟨vb (by symm;simp [YI];omega),sz⟩ (u9 J)
       ·refine v9 ?_;refine cZ (fun c6=> ?_) (fun c6=> ?_)
        ·refine S5 ?_;refine a9 (qM (j:=i) (fun w hs=>Qn hr hs.fin) J J J JM hlt) ?_;refine S1 ?_;refine a9 (jq J J jt (xz (i:=4) (fun w hs=>Qn hr hs.fin) hlt Om J)) ?_;refine S7 ?_;refine a9 (qM (j:=i) (fun w hs=>Qn hr hs.fin) J J J JM hlt) ?_;refine S1 ?_;refine a9 (jq J J jt (xz (i:=5) (fun w hs=>Qn hr hs.fin) hlt Om J)) ?_;refine S11 ?_
         exact qa hL1 (i+1) Om Om ⟨vi (RO (s:=false) hik c5 c6),vi (RO (s:=true) hik c5 c6),vi Om,sz⟩ (u9 J)
        ·refine S9 ?_
         exact qa hL1 (i+1) Om Om ⟨vi (RQ (s:=false) hik c5 c6),vi (RQ (s:=true) hik c5 c6),vi Om,sz⟩ (u9 J)
  ·have hin:i=l.length:=Om
   refine S13 ?_;refine JX J (.tmp J) (.tmp J) ?_
   intro w' hs
   exact⟨by rw [hin],hs.fin⟩
def sdN (l:List Nt) (k:Nat) :Nt:= {nt l k with l1:=QE false l k l.length+ (nt l k).one,l2:=QE true l k l.length+ (nt l k).two}
def WM (l:List Nt) (i:Nat) :List Nt:= (List.range l.length).map fun k=>if k<i then sdN l k else nt l k
theorem I7 (l:List Nt) (i:Nat) : (WM l i).length=l.length:=by simp [WM]
theorem Pu (h:k<l.length) :nt (WM l i) k=if k<i then sdN l k else nt l k:=by
 simp [nt,WM,List.getD,List.getElem?_map,List.getElem?_range h]
theorem Ej (h:k<l.length) : (nt (WM l i) k).e= (nt l k).e∧(∀s,Vm s (nt (WM l i) k) =Vm s (nt l k)) :=by
 rw [Pu h]
 split
 ·exact⟨rfl,fun s=>by cases s<;>rfl⟩
 ·exact⟨rfl,fun s=>rfl⟩
theorem Cw (l:List Nt) :l= (List.range l.length).map (nt l) :=by
 refine jjp (by simp) fun k h1 h2=> ?_
 simp only [jje,jjB]
 exact YV h1
theorem jdy (l:List Nt) :WM l 0=l:=by
 conv=>rhs;rw [Cw l]
 simp [WM]
theorem jdx (h:i<l.length) :WM l (i+1) = (WM l i).set i (sdN l i) :=by
 refine jjp (by simp [WM]) fun k h1 h2=> ?_
 rw [List.getElem_set]
 simp only [WM,jje,jjB]
 by_cases e:i=k
 ·subst e;rw [if_pos Om,if_pos rfl]
 ·rw [if_neg e]
  by_cases c:k<i
  ·rw [if_pos c,if_pos Om]
  ·rw [if_neg c,if_neg Om]
theorem jdB {α β:Type} (f:β→Int) (g:α→β) :∀l:List α,sm f (l.map g) =sm (fun x=>f (g x)) l
 | [] =>rfl
 | x::l=>by simp only [jiv,sm,jdB f g l]
theorem jhK (l:List Nt) (i:Nat) (t:Bool) :aS t (WM l i) =aS t l:=by
 have e:∀m:List Nt,aS t m=sm (fun k=>ZD (Vm t (nt m k))) (List.range m.length) :=fun m=>by
  conv=>lhs;rw [Cw m]
  unfold aS
  rw [jdB]
 rw [e,e l,I7]
 exact yG fun k hk=>by rw [(Ej (jjN.1 hk)).2]
theorem I6 {l:List Nt} {i k:Nat} (hk:k<l.length) (s:Bool) :∀j,j≤l.length→QE s (WM l i) k j=QE s l k j
 | 0,_=>rfl
 | j+1,h=>by rw [QE,QE,I6 hk s j Om,(Ej (show j<l.length by omega)).1,(Ej (show j<l.length by omega)).2,(Ej hk).1]
theorem jg6 (h:∀y∈l,qU y.e) :∀y∈WM l i,qU y.e:=fun y hy=>by
 obtain ⟨k,hk,rfl⟩ :=jiD.1 hy
 have hk:=jjN.1 hk
 split
 ·exact(show qU (nt l k).e from h _ (GF hk))
 ·exact h _ (GF hk)
def uL (l:List Nt) :List Nt:=WM l l.length
theorem jhM (h:k<l.length) (he:nt l k=e) :qL (l.flatMap qm) (0+k*8+6) [.int .i64 v] = (l.set k {e with l1:=v}).flatMap qm:=by
 subst he
 exact UC qm kM (Iq9 h) (Je (nt l k).e++ [.int .i64 (nt l k).one, .int .i64 (nt l k).two]) [.int .i64 (nt l k).l1] [.int .i64 v] [.int .i64 (nt l k).l2] (by simp [qm]) (by simp [qm]) rfl (by simp [Je])
theorem jhN (h:k<l.length) (he:nt l k=e) :qL (l.flatMap qm) (0+k*8+7) [.int .i64 v] = (l.set k {e with l2:=v}).flatMap qm:=by
 subst he
 exact UC qm kM (Iq9 h) (Je (nt l k).e++ [.int .i64 (nt l k).one, .int .i64 (nt l k).two, .int .i64 (nt l k).l1]) [.int .i64 (nt l k).l2] [.int .i64 v] [] (by simp [qm]) (by simp [qm]) rfl (by simp [Je])
theorem jgK (h:k<l.length) :nt (l.set k e) k=e:=by simp [nt,List.getD,h]
theorem Iq (l:List Nt) (x:Option Addr×Nat) (w:World) (hr: (Rx l x).P w) (hok:∀y∈l,qU y.e) (hl:l.length≤16384) (ha:∀t,aS t l≤16384) :
  Calls Tryz.prog 187 #[.slice x.1 l.length x.2] w fun e w'=>e= .returned (.tuple #[])∧Wrs (Rx l x).F w w'∧(JS 0 262 8 l.length ((uL l).flatMap qm) x).P w':=by
 refine Yl (m:=39) (jaK x) (Rx l x) (hr) (fun b hb=>G4.1 hb) J (Tryz.func187) J J (lb J) ?_;refine S5 ?_;refine JE (X:=Nat) (fun i=>i≤l.length) (fun i=>l.length- i) (fun i=> [(2, .int .i64 (i:Int))]) (kK [0]) (fun i=> [JS 0 262 8 l.length ((WM l i).flatMap qm) x]) 0 (jie _) ⟨J,sz⟩ (fun _ h=>by rw [jdy];exact h) ?_
 intro i hi L hL1
 refine v9 ?_;refine r9 ?_
 obtain ⟨M,hM⟩ :∃M,M=WM l i:=⟨_,rfl⟩
 have hMl:M.length=l.length:= (by rw [hM];exact I7 l i)
 have hMa:∀t,aS t M≤16384:= (fun t=>by rw [hM,jhK];exact ha t)
 have hMo:∀y∈M,qU y.e:= (by rw [hM];exact jg6 hok)
 rw [←hM]
 refine S8 ?_;refine cZ (fun c1=> ?_) (fun c1=> ?_)
 ·have hlt:i<l.length:=Om
  have hlM:i<M.length:=Om
  have hb1:QE false M i l.length=QE false l i l.length:= (by rw [hM];exact I6 hlt false _ (jif _))
  have hb2:QE true M i l.length=QE true l i l.length:= (by rw [hM];exact I6 hlt true _ (jif _))
  have hn:nt M i=nt l i:= (by rw [hM,Pu hlt,if_neg Om])
  have hd1:=U6 (s:=false) (k:=i) (jif l.length)
  have hd2:=U6 (s:=true) (k:=i) (jif l.length)
  have hc1:=Z8 (s:=false) hlt
  have hc2:=Z8 (s:=true) hlt
  have ha1:=ha false
  have ha2:=ha true
  simp only [Vm,if_true,jjb,if_false] at hc1 hc2
  refine S8 ?_;refine a9 (jG XC J J (fun w1 hs=>by have:=B8 M x i w1 (by have:= (hs.all 0 _ J).1;rw [←hMl] at this;exact this) hlM hMo Om hMa;rw [hMl,hb1,hb2] at this;exact this)) ?_;refine S13 ?_;refine a9 (qM (j:=i) (fun w hs=> (hs.all 0 _ J).1) J J J JM hlt) ?_;refine S1 ?_;refine a9 (jq J J jt (xz (i:=4) (v:= .int .i64 (nt l i).one) (fun w hs=> (hs.all 0 _ J).1) hlM Om (by rw [hn];rfl))) ?_;refine S1 ?_;refine a9 (qM (j:=i) (fun w hs=> (hs.all 0 _ J).1) J J J JM hlt) ?_;refine S2 ?_;refine Ud (k:=0) (vs:= [.int .i64 (QE false l i l.length+ (nt l i).one)]) J J J J (by rfl) (by rfl) qW.szx J J (by simp) (by rw [vS qm 8 kM];simp only [jij,jiw];omega) ?_;refine n9 ?_
  rw [jhM hlM hn]
  have hlM2:i< (M.set i {nt l i with l1:=QE false l i l.length+ (nt l i).one}).length:= (by rw [jjf];exact hlM)
  have hn2:=jgK (e:= {nt l i with l1:=QE false l i l.length+ (nt l i).one}) hlM
  refine S7 ?_;refine a9 (qM (j:=i) (fun w hs=> (hs.all 0 _ J).1) J J J JM hlt) ?_;refine S1 ?_;refine a9 (jq J J jt (xz (i:=5) (v:= .int .i64 (nt l i).two) (fun w hs=> (hs.all 0 _ J).1) hlM2 Om (by rw [hn2];rfl))) ?_;refine S1 ?_;refine a9 (qM (j:=i) (fun w hs=> (hs.all 0 _ J).1) J J J JM hlt) ?_;refine S2 ?_;refine Ud (k:=0) (vs:= [.int .i64 (QE true l i l.length+ (nt l i).two)]) J J J J (by rfl) (by rfl) qW.szx J J (by simp) (by rw [vS qm 8 kM,jjf];simp only [jij,jiw];omega) ?_;refine n9 ?_
  rw [jhN hlM2 hn2,List.set_set]
  refine S8 ?_
  exact Jd hL1 (i+1) Om Om ⟨vi Om,sz⟩ (fun _ h=>h.upto ⟨by rw [jdx hlt,←hM];rfl,trivial⟩)
 ·have hin:i=l.length:=Om
  refine S4 ?_;refine Q6 J ?_
  intro w' hs
  exact⟨rfl,hs.over.wrs.mono fun b hb=>G4.2 hb,by have:= (hs.all 0 _ rfl).1;rw [hM,hin] at this;exact this⟩
end Go.Proofs.YtbahojdbmmjkcaaGreat
namespace Go.Proofs.YtbahojdbmmjkcaaGreat
open Go Go.RowKit
variable {P Q:Pn} {es:List Leg} {j:Nat} {r:Option Addr×Nat} {α:Type} {β:Int}
section
variable {w0:Bs} {Rs:List Res}
theorem rdG {f:α→List Value} {m T B q:Nat} {l:List α} {off i:Nat} {a:α} {v:Value} (hf:∀a,(f a).length=m) (hr:∀w,St w0 Rs w→(JS B T m q (l.flatMap f) r).P w) (ha:l[j]? =some a) (he:off=j*m+i) (hv: (f a)[i]? =some v) :∀w,St w0 Rs w→w.cell? ⟨VW r.1,off,none⟩ =some v:=fun w hs=>by
 refine zW (hr w hs) ?_
 have hi:= (List.getElem?_eq_some_iff.1 hv).1
 obtain ⟨hj,e⟩ :=List.getElem?_eq_some_iff.1 ha
 rw [he,y3 f m hf l j i hj (by rw [hf] at hi;exact hi),e]
 exact hv
theorem jh0 {f:α→List Value} {m T B q:Nat} {l:List α} {off:Nat} {a:α} (vs:List Value) (i:Nat) (hf:∀a,(f a).length=m) (hr:∀w,St w0 Rs w→(JS B T m q (l.flatMap f) r).P w) (ha:l[j]? =some a) (he:off=j*m+i) (hv:∀q v,vs[q]? =some v→(f a)[i+q]? =some v) :∀w,St w0 Rs w→∀q v,vs[q]? =some v→w.cell? ⟨VW r.1,off+q,none⟩ =some v:=fun w hs q v h=>
 rdG hf hr ha Om (hv q v h) w hs
end
theorem jeG {l:List Leg} (h:j<l.length) :l[j]? =some (lg l j) :=by rw [List.getElem?_eq_getElem h,Uf h]
theorem jg0 (B T s:Nat) (w:World) : (JS B T s 0 [] (none,0)).P w:=World.ownsRow_nil _ _ _ _
theorem x5 {rs:List Jp} (h:J0 rs=true) :Fine (Jw rs) :=⟨jdg h,RL rs rs.length,fun f=>CO f rs rs.length⟩
structure Key (es:List Leg) (p:Leg) :Prop where
 ok:qU p
 ne:lA p≠lB p
 ord:¬ww (lB p) (lA p)
theorem SO : (VQ es).length≤es.length:=by
 have:=WO (s:=false) es []
 rw [VQ,jip]
 simpa using this
theorem TR (l:List Nt) : (uL l).length=l.length:=I7 l _
theorem Ek {l:List Nt} {k:Nat} (h:k<l.length) :nt (uL l) k=sdN l k:=by rw [uL,Pu h,if_pos h]
theorem jbg (t:Bool) :aS t [] =0:=rfl
theorem y6 (b1 o1:Nat) (A:Option Addr) (n c:Nat) (rs:List Jp) (w:World) (hes:es=Jw rs) (hcell:w.cell? ⟨b1,o1,none⟩ =some (.slice A n c)) (hb1:b1<w.heap.size) (h:Rings w A n rs) (ht: (total rs:Int)≤1048577) :
  Calls Tryz.prog 52 #[.pointer (some ⟨b1,o1,none⟩)] w fun e w'=>∃x:Option Addr×Nat,e= .returned (.slice x.1 es.length x.2)∧Over w w'∧(JS 0 147 4 es.length (es.flatMap Je) x).P w'∧(∀b,(JS 0 147 4 es.length (es.flatMap Je) x).F b→w.heap.size≤b)∧(JS 0 147 4 es.length (es.flatMap Je) x).B=0∧True:=by
 subst hes
 exact qI ((xh b1 o1 A n c rs w hcell hb1 h ht).mono fun e w' ⟨v,h1,_,h2,h3⟩ =>⟨v,h1,h2,h3⟩)
def cr (P Q:Pn) :Int:=P.1*Q.2- P.2*Q.1
def ws (P Q:Pn) :Int:=if(P.2≤0∧0<Q.2)∧0<cr P Q then 1 else if(Q.2≤0∧0<P.2)∧cr P Q<0 then-1 else 0
def up (α:Int) (P:Pn) :Int:=if 0<α∧0<P.2 then 1 else 0
theorem kY {a b p:Int} (h:p=a*b) : (0<a∧0<b∧0<p)∨(0<a∧b<0∧p<0)∨(a<0∧0<b∧p<0)∨(a<0∧b<0∧0<p)∨(a=0∧p=0)∨(b=0∧p=0) :=by
 subst h
 rcases ji6 a 0 with ha | ha | ha
 ·rcases ji6 b 0 with hb | hb | hb
  ·exact .inr (.inr (.inr (.inl ⟨ha,hb,Int.mul_pos_of_neg_of_neg ha hb⟩)))
  ·subst hb;simp
  ·exact .inr (.inr (.inl ⟨ha,hb,jjq ha hb⟩))
 ·subst ha;simp
 ·rcases ji6 b 0 with hb | hb | hb
  ·exact .inr (.inl ⟨ha,hb,Int.mul_neg_of_pos_of_neg ha hb⟩)
  ·subst hb;simp
  ·exact .inl ⟨ha,hb,ji5 ha hb⟩
def Hf (α β:Int) (P:Pn) :Prop:=0<α*P.1+β*P.2
theorem UQ {α:Int} (hP:Hf α β P) (hQ:Hf α β Q) :ws P Q=up α Q- up α P:=by
 have key:α*cr P Q= (α*P.1+β*P.2) *Q.2- P.2* (α*Q.1+β*Q.2) :=by unfold cr;grind
 unfold Hf at hP hQ
 have h1:=kY (a:=α*P.1+β*P.2) (b:=Q.2) rfl
 have h2:=kY (a:=P.2) (b:=α*Q.1+β*Q.2) rfl
 have h3:=kY (a:=α) (b:=cr P Q) rfl
 unfold ws up
 generalize (α*P.1+β*P.2) *Q.2=x at*
 generalize P.2* (α*Q.1+β*Q.2) =y at*
 generalize α*cr P Q=z at*
 generalize α*P.1+β*P.2=p at*
 generalize α*Q.1+β*Q.2=q at*
 generalize cr P Q=t at*
 repeat' split
 all_goals omega
theorem Mg {α:Int} {P' Q':Pn} (h1:Hf α β P) (h2:Hf α β P') (h3:Hf α β Q) (h4:Hf α β Q') :ws P P'+ws P' Q'=ws P Q+ws Q Q':=by
 rw [UQ h1 h2,UQ h2 h4,UQ h1 h3,UQ h3 h4]
 omega
theorem Gc {α:Int} {R S:Pn} (h1:Hf α β P) (h2:Hf α β Q) (h3:Hf α β R) (h4:Hf α β S) :ws P Q+ws Q R+ws R S+ws S P=0:=by
 rw [UQ h1 h2,UQ h2 h3,UQ h3 h4,UQ h4 h1]
 omega
theorem jel (P Q:Pn) :cr Q P= -cr P Q:=by unfold cr;grind
theorem Mf (P Q:Pn) :ws Q P= -ws P Q:=by
 unfold ws
 rw [jel]
 generalize cr P Q=t
 repeat' split
 all_goals omega
def sb (P Q:Pn) :Pn:= (P.1- Q.1,P.2- Q.2)
def ZS (X X' Y Y':Pn) :Int:=ws (sb X Y) (sb X' Y) +ws (sb X' Y) (sb X' Y') +ws (sb X' Y') (sb X Y') +ws (sb X Y') (sb X Y)
theorem Pd (X X' Y Y':Pn) :ZS X' X Y Y'= -ZS X X' Y Y':=by
 unfold ZS
 rw [Mf (sb X' Y) (sb X Y),Mf (sb X' Y) (sb X' Y'),Mf (sb X' Y') (sb X Y'),Mf (sb X Y') (sb X Y)]
 have e1:ws (sb X' Y) (sb X' Y') =ws (sb X' Y) (sb X' Y') :=rfl
 omega
theorem jhj (X X' Y:Pn) :cr (sb X Y) (sb X' Y) =tn X X' Y:=by simp only [cr,sb,tn,Kw];grind
theorem jhk (X' Y Y':Pn) :cr (sb X' Y) (sb X' Y') =tn Y Y' X':=by simp only [cr,sb,tn,Kw];grind
theorem jhl (X X' Y':Pn) :cr (sb X' Y') (sb X Y') = -tn X X' Y':=by simp only [cr,sb,tn,Kw];grind
theorem jhm (X Y Y':Pn) :cr (sb X Y') (sb X Y) = -tn Y Y' X:=by simp only [cr,sb,tn,Kw];grind
theorem Ri (X X' Y Y':Pn) :tn X X' Y'- tn X X' Y= -(tn Y Y' X'- tn Y Y' X) :=by simp only [tn,Kw];grind
theorem Ez (h:0<cr P Q) :ws P Q=if P.2≤0∧0<Q.2 then 1 else 0:=by
 unfold ws
 generalize cr P Q=t at*
 repeat' split
 all_goals omega
theorem D8 {X X' Y Y':Pn} (h1:0<tn X X' Y) (h2:tn X X' Y'<0) (h3:tn Y Y' X<0) (h4:0<tn Y Y' X') :ZS X X' Y Y'≠0:=by
 have c0:=jhj X X' Y
 have c1:=jhk X' Y Y'
 have c2:=jhl X X' Y'
 have c3:=jhm X Y Y'
 unfold ZS
 rw [Ez Om,Ez Om,Ez Om,Ez Om]
 have w1:0< -(tn Y Y' X'*tn X X' Y') :=by have:=Int.mul_neg_of_pos_of_neg h4 h2;omega
 have w2:0<tn Y Y' X*tn X X' Y':=Int.mul_pos_of_neg_of_neg h3 h2
 have w3:0< -(tn Y Y' X*tn X X' Y) :=by have:=jjq h3 h1;omega
 have w4:0<tn Y Y' X'*tn X X' Y:=ji5 h4 h1
 have hs: -(tn Y Y' X'*tn X X' Y') * (sb X Y).2+tn Y Y' X*tn X X' Y'* (sb X' Y).2+ -(tn Y Y' X*tn X X' Y) * (sb X' Y').2+tn Y Y' X'*tn X X' Y* (sb X Y').2=0:=by
  simp only [tn,Kw,sb];grind
 have z0:∀P Q:Pn,P.2=0→Q.2=0→cr P Q=0:=fun P Q e1 e2=>by simp [cr,e1,e2]
 generalize tn Y Y' X'*tn X X' Y'=a1 at*
 generalize tn Y Y' X*tn X X' Y'=a2 at*
 generalize tn Y Y' X*tn X X' Y=a3 at*
 generalize tn Y Y' X'*tn X X' Y=a4 at*
 generalize tn X X' Y=t1 at*
 generalize tn X X' Y'=t2 at*
 generalize tn Y Y' X=t3 at*
 generalize tn Y Y' X'=t4 at*
 generalize sb X Y=P0 at*
 generalize sb X' Y=P1 at*
 generalize sb X' Y'=P2 at*
 generalize sb X Y'=P3 at*
 intro hz
 by_cases hp:0<P0.2
 ·have k1:0<P1.2∧0<P2.2∧0<P3.2:=by
   by_cases k3:0<P3.2<;>by_cases k2:0<P2.2<;>by_cases k1:0<P1.2<;>simp [hp,k1,k2,k3,Int.not_le.2,jjn.1] at hz⊢<;>omega
  have m0:=ji5 w1 hp
  have m1:=ji5 w2 k1.1
  have m2:=ji5 w3 k1.2.1
  have m3:=ji5 w4 k1.2.2
  omega
 ·have k1:P1.2≤0∧P2.2≤0∧P3.2≤0:=by
   by_cases k3:0<P3.2<;>by_cases k2:0<P2.2<;>by_cases k1:0<P1.2<;> (try omega) <;>exfalso<;>revert hz<;> (repeat' split) <;>omega
  have m0:=kY (a:= -a1) (b:=P0.2) rfl
  have m1:=kY (a:=a2) (b:=P1.2) rfl
  have m2:=kY (a:= -a3) (b:=P2.2) rfl
  have m3:=kY (a:=a4) (b:=P3.2) rfl
  have e0:P0.2=0:=by omega
  have e1:P1.2=0:=by omega
  have:=z0 P0 P1 e0 e1
  omega
theorem T6 (a b p:Pn) :tn b a p= -tn a b p:=by simp only [tn,Kw];grind
theorem Tb {X X' Y Y':Pn} (h:Qc X X' Y Y'=true) :ZS X X' Y Y'≠0:=by
 have hd:=Ri X X' Y Y'
 obtain ⟨h1,h2⟩ :=K9.1 h
 rcases h1 with h1 | h1
 ·have f1:=T6 X X' Y
  have f2:=T6 X X' Y'
  have:=D8 (X:=X') (X':=X) (Y:=Y) (Y':=Y') Om Om Om Om
  rw [Pd] at this
  omega
 ·exact D8 Om Om Om Om
theorem GX {a b p:Pn} (hab:a≠b) (ht:tn a b p=0) (hn:UZ a b p≠true) :∃m n:Int,0<m∧0<n∧m* (a.1- p.1) =n* (b.1- p.1)∧m* (a.2- p.2) =n* (b.2- p.2) :=by
 have ht': (b.1- a.1) * (p.2- a.2) = (b.2- a.2) * (p.1- a.1) :=by simp only [tn,Kw] at ht;omega
 have hn':¬((min a.1 b.1≤p.1∧p.1≤max a.1 b.1)∧min a.2 b.2≤p.2∧p.2≤max a.2 b.2) :=fun h=>hn (Ky.2 ⟨ht,h.1,h.2⟩)
 by_cases h1:p.1<a.1∧p.1<b.1
 ·exact⟨b.1- p.1,a.1- p.1,by omega,by omega,jiW ..,by grind⟩
 ·by_cases h2:a.1<p.1∧b.1<p.1
  ·exact⟨p.1- b.1,p.1- a.1,by omega,by omega,by grind,by grind⟩
  ·by_cases h3:p.2<a.2∧p.2<b.2
   ·exact⟨b.2- p.2,a.2- p.2,by omega,by omega,by grind,jiW ..⟩
   ·by_cases h4:a.2<p.2∧b.2<p.2
    ·exact⟨p.2- b.2,p.2- a.2,by omega,by omega,by grind,by grind⟩
    ·exact absurd ⟨⟨by omega,by omega⟩,by omega,by omega⟩ hn'
theorem Zs {a b p q:Pn} (hab:a≠b) (ht:tn a b p=0) (hn:UZ a b p≠true) (h1:¬(0<tn p q a∧0<tn p q b)) (h2:¬(tn p q a<0∧tn p q b<0)) :tn p q a=0∧tn p q b=0:=by
 obtain ⟨m,n,hm,hn',e1,e2⟩ :=GX hab ht hn
 have key:m*tn p q a=n*tn p q b:=by
  have g1:m*tn p q a= (q.1- p.1) * (m* (a.2- p.2)) - (q.2- p.2) * (m* (a.1- p.1)) :=by simp only [tn,Kw];grind
  have g2:n*tn p q b= (q.1- p.1) * (n* (b.2- p.2)) - (q.2- p.2) * (n* (b.1- p.1)) :=by simp only [tn,Kw];grind
  rw [g1,g2,e1,e2]
 have s1:=kY (a:=m) (b:=tn p q a) rfl
 have s2:=kY (a:=n) (b:=tn p q b) rfl
 omega
theorem Me (p q a:Pn) :tn q p a= -tn p q a:=by simp only [tn,Kw];grind
structure Off (X X' Y Y':Pn) :Prop where
 x:X≠X'
 y:Y≠Y'
 nn1:UZ X X' Y≠true
 nn2:UZ X X' Y'≠true
 nn3:Go.Proofs.YtbahojdbmmjkcaaGreat.UZ Y Y' X≠true
 nn4:Go.Proofs.YtbahojdbmmjkcaaGreat.UZ Y Y' X'≠true
theorem F5 {p q x1 x2 y1 y2 k j:Int} (hk:0<k) (hj:0<j) (e1:k*x1=j*y1) (e2:k*x2=j*y2) (h:0<p*y1+q*y2) :0<p*x1+q*x2:=by
 have e:k* (p*x1+q*x2) =j* (p*y1+q*y2) :=by
  have:k* (p*x1+q*x2) =p* (k*x1) +q* (k*x2) :=by grind
  rw [this,e1,e2]
  grind
 have s1:=kY (a:=k) (b:=p*x1+q*x2) rfl
 have s2:=ji5 hj h
 omega
theorem jal {X X' Y Y':Pn} (h:Off X X' Y Y') (hs:Qc X X' Y Y'≠true) :ZS X X' Y Y'=0:=by
 have g0:∀Z W:Pn,-(X'.1- X.1) * (Z.2- W.2) + (X'.2- X.2) * (Z.1- W.1) =tn X X' W- tn X X' Z:=fun Z W=>by simp only [tn,Kw];grind
 have g1:∀Z W:Pn,(Y'.1- Y.1) * (Z.2- W.2) + -(Y'.2- Y.2) * (Z.1- W.1) =tn Y Y' Z- tn Y Y' W:=fun Z W=>by simp only [tn,Kw];grind
 have x0:tn X X' X=0:=by simp only [tn,Kw];grind
 have x1:tn X X' X'=0:=by simp only [tn,Kw];grind
 have y0:tn Y Y' Y=0:=by simp only [tn,Kw];grind
 have y1:tn Y Y' Y'=0:=by simp only [tn,Kw];grind
 by_cases a1:0<tn X X' Y∧0<tn X X' Y'
 ·refine Gc (α:=X'.2- X.2) (β:= -(X'.1- X.1)) ?_ ?_ ?_ ?_<;>simp only [Hf,sb]
  ·have:=g0 X Y;omega
  ·have:=g0 X' Y;omega
  ·have:=g0 X' Y';omega
  ·have:=g0 X Y';omega
 by_cases a2:tn X X' Y<0∧tn X X' Y'<0
 ·have n1:∀Z W:Pn,-(X'.2- X.2) * (Z.1- W.1) + (X'.1- X.1) * (Z.2- W.2) =tn X X' Z- tn X X' W:=fun Z W=>by simp only [tn,Kw];grind
  refine Gc (α:= -(X'.2- X.2)) (β:=X'.1- X.1) ?_ ?_ ?_ ?_<;>simp only [Hf,sb]
  ·have:=n1 X Y;omega
  ·have:=n1 X' Y;omega
  ·have:=n1 X' Y';omega
  ·have:=n1 X Y';omega
 by_cases a3:0<tn Y Y' X∧0<tn Y Y' X'
 ·refine Gc (α:= -(Y'.2- Y.2)) (β:=Y'.1- Y.1) ?_ ?_ ?_ ?_<;>simp only [Hf,sb]
  ·have:=g1 X Y;omega
  ·have:=g1 X' Y;omega
  ·have:=g1 X' Y';omega
  ·have:=g1 X Y';omega
 by_cases a4:tn Y Y' X<0∧tn Y Y' X'<0
 ·have n1:∀Z W:Pn,(Y'.2- Y.2) * (Z.1- W.1) + -(Y'.1- Y.1) * (Z.2- W.2) =tn Y Y' W- tn Y Y' Z:=fun Z W=>by simp only [tn,Kw];grind
  refine Gc (α:=Y'.2- Y.2) (β:= -(Y'.1- Y.1)) ?_ ?_ ?_ ?_<;>simp only [Hf,sb]
  ·have:=n1 X Y;omega
  ·have:=n1 X' Y;omega
  ·have:=n1 X' Y';omega
  ·have:=n1 X Y';omega
 have f1:=Me Y Y' X
 have f2:=Me Y Y' X'
 have f3:=Me X X' Y
 have f4:=Me X X' Y'
 have hd:=Ri X X' Y Y'
 have all0:tn X X' Y=0∧tn X X' Y'=0∧tn Y Y' X=0∧tn Y Y' X'=0:=by
  have k1:tn X X' Y=0→tn Y Y' X=0∧tn Y Y' X'=0:=fun e=>Zs h.x e h.nn1 a3 a4
  have k2:tn X X' Y'=0→tn Y' Y X=0∧tn Y' Y X'=0:=fun e=>Zs h.x e h.nn2 Om Om
  have k3:tn Y Y' X=0→tn X X' Y=0∧tn X X' Y'=0:=fun e=>Zs h.y e h.nn3 a1 a2
  have k4:tn Y Y' X'=0→tn X' X Y=0∧tn X' X Y'=0:=fun e=>Zs h.y e h.nn4 Om Om
  have hs':=fun e=>hs (K9.2 e)
  by_cases z1:tn X X' Y=0
  ·have:=k1 z1;have:=k3 this.1;omega
  ·by_cases z2:tn X X' Y'=0
   ·have:=k2 z2;have:=k3 Om;omega
   ·by_cases z3:tn Y Y' X=0
    ·have:=k3 z3;omega
    ·by_cases z4:tn Y Y' X'=0
     ·have:=k4 z4;omega
     ·exact absurd ⟨by omega,by omega⟩ hs'
 obtain ⟨m,n,hm,hn,e1,e2⟩ :=GX h.x all0.1 h.nn1
 obtain ⟨m',n',hm',hn',e1',e2'⟩ :=GX h.y all0.2.2.1 h.nn3
 obtain ⟨m'',n'',hm'',hn'',e1'',e2''⟩ :=GX h.y all0.2.2.2 h.nn4
 have hne:X.1- Y.1≠0∨X.2- Y.2≠0:=by
  by_cases k:X.1- Y.1=0
  ·refine .inr fun k2=>h.nn1 ?_
   have:Y=X:=Prod.ext Om Om
   rw [this]
   exact XH X X'
  ·exact .inl k
 have hq:0< (X.1- Y.1) * (X.1- Y.1) + (X.2- Y.2) * (X.2- Y.2) :=by
  have s1:=kY (a:=X.1- Y.1) (b:=X.1- Y.1) rfl
  have s2:=kY (a:=X.2- Y.2) (b:=X.2- Y.2) rfl
  omega
 have neg:∀ {k j x y z:Int},k* (x- z) =j* (y- z)→j* (z- y) =k* (z- x) :=fun {k j x y z} e=>by
  have g1:j* (z- y) = -(j* (y- z)) :=by grind
  have g2:k* (z- x) = -(k* (x- z)) :=by grind
  omega
 have hb:0< (X.1- Y.1) * (X'.1- Y.1) + (X.2- Y.2) * (X'.2- Y.2) :=F5 hn hm e1.symm e2.symm hq
 refine Gc (α:=X.1- Y.1) (β:=X.2- Y.2) hq hb ?_ ?_
 ·exact F5 hn'' hm'' (neg e1'') (neg e2'') hb
 ·exact F5 hn' hm' (neg e1') (neg e2') hq
end Go.Proofs.YtbahojdbmmjkcaaGreat
