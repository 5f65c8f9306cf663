import Derived.Test.YtkagkgjjfdkoaaaGreatMNetT
import Derived.Test.YtkagkgjjfdkoaaaGreatMTrS
import Derived.Test.YtkagkgjjfdkoaaaGreatMSnapG
set_option linter.unusedVariables false
set_option linter.unusedSimpArgs false
namespace Go.Proofs.YtkagkgjjfdkoaaaGreat
open Go Go.RowKit
set_option maxRecDepth 100000
set_option maxHeartbeats 4000000
def Vz (a b how:Int) :Bool:=if how=1 then(!(a==0)) || (!(b==0)) else if how=2 then(!(a==0)) && (!(b==0)) else if how=3 then(!(a==0)) && !(!(b==0)) else !((!(a==0)) == (!(b==0)))
theorem GF (a b how:Int) (w:World) :Calls Tryz.prog 105 #[.int .i64 a, .int .i64 b, .int .i64 how] w fun e w'=>e= .returned (.bool (Vz a b how))∧Over w w':=by
 refine jU (m:=36) (Tryz.func105) J J (lb J) ?_;refine S27 ?_;refine cZ (fun c1=> ?_) (fun c1=> ?_)
 ·refine S4 ?_;refine cV 17 (fun g1=> ?_) (fun g1=> ?_)
  ·refine S7 ?_;refine jL J (.tmp J) ?_
   intro w' hs
   exact⟨QJ (by simp [Vz, *]),hs.fin⟩
  ·refine S8 ?_;refine jL J (.tmp J) ?_
   intro w' hs
   exact⟨QJ (by simp [Vz, *]),hs.fin⟩
 ·refine S5 ?_;refine cZ (fun c2=> ?_) (fun c2=> ?_)
  ·refine S4 ?_;refine cV 23 (fun g2=> ?_) (fun g2=> ?_)
   ·refine S8 ?_;refine jL J (.tmp J) ?_
    intro w' hs
    exact⟨QJ (by simp [Vz, *]),hs.fin⟩
   ·refine S7 ?_;refine jL J (.tmp J) ?_
    intro w' hs
    exact⟨QJ (by simp [Vz, *]),hs.fin⟩
  ·refine S5 ?_;refine cZ (fun c3=> ?_) (fun c3=> ?_)
   ·refine S4 ?_;refine cV 29 (fun g3=> ?_) (fun g3=> ?_)
    ·refine S10 ?_;refine jL J (.tmp J) ?_
     intro w' hs
     exact⟨QJ (by simp [Vz, *]),hs.fin⟩
    ·refine S8 ?_;refine jL J (.tmp J) ?_
     intro w' hs
     exact⟨QJ (by simp [Vz, *]),hs.fin⟩
   ·refine S7 ?_;refine a9 (x7 Y9 J J J) ?_;refine S3 ?_;refine jL J (.tmp J) ?_
    intro w' hs
    exact⟨QJ (by simp [Vz, *]),hs.fin⟩
theorem ON (a b how:Int) (w:World) :Calls Tryz.prog 86 #[.int .i64 a, .int .i64 b, .int .i64 how] w fun e w'=>e= .returned (.bool (Vz a b how))∧Over w w':=by
 refine jU (m:=36) (Tryz.func86) J J (lb J) ?_;refine S24 ?_;refine cZ (fun c1=> ?_) (fun c1=> ?_)
 ·refine S4 ?_;refine cV 17 (fun g1=> ?_) (fun g1=> ?_)
  ·refine S7 ?_;refine jL J (.tmp J) ?_
   intro w' hs
   exact⟨QJ (by simp [Vz, *]),hs.fin⟩
  ·refine S8 ?_;refine jL J (.tmp J) ?_
   intro w' hs
   exact⟨QJ (by simp [Vz, *]),hs.fin⟩
 ·refine S5 ?_;refine cZ (fun c2=> ?_) (fun c2=> ?_)
  ·refine S4 ?_;refine cV 23 (fun g2=> ?_) (fun g2=> ?_)
   ·refine S8 ?_;refine jL J (.tmp J) ?_
    intro w' hs
    exact⟨QJ (by simp [Vz, *]),hs.fin⟩
   ·refine S7 ?_;refine jL J (.tmp J) ?_
    intro w' hs
    exact⟨QJ (by simp [Vz, *]),hs.fin⟩
  ·refine S5 ?_;refine cZ (fun c3=> ?_) (fun c3=> ?_)
   ·refine S4 ?_;refine cV 29 (fun g3=> ?_) (fun g3=> ?_)
    ·refine S10 ?_;refine jL J (.tmp J) ?_
     intro w' hs
     exact⟨QJ (by simp [Vz, *]),hs.fin⟩
    ·refine S8 ?_;refine jL J (.tmp J) ?_
     intro w' hs
     exact⟨QJ (by simp [Vz, *]),hs.fin⟩
   ·refine S7 ?_;refine a9 (x7 Y9 J J J) ?_;refine S3 ?_;refine jL J (.tmp J) ?_
    intro w' hs
    exact⟨QJ (by simp [Vz, *]),hs.fin⟩
theorem jcf {w:World} {B T s m:Nat} {xs:List Value} {x:Option Addr×Nat} (h: (JP B T s m xs x).P w) :Src s (.slice x.1 m x.2) m xs w:=by
 have h:w.ownsRow B T s (.slice x.1 m x.2) m xs:=h
 refine⟨h.1,?_⟩
 rcases h.2 with⟨e,e0⟩ |⟨g,cap,cur,e,hb,hg,hcap,hmax,hsz,htk⟩
 ·left
  injection e with e1 e2 e3
  rw [e1,e3,e0]
  exact⟨rfl,rfl⟩
 ·right
  injection e with e1 e2 e3
  refine⟨⟨g,0,none⟩,x.2,by rw [e1],fun q u hu=> ?_⟩
  have hq:= (List.getElem?_eq_some_iff.1 hu).1
  rw [←htk,List.getElem?_take,if_pos (by have:=h.1;omega)] at hu
  rw [Qz,je3,cell_of_row w g q cur T (0,0) hg]
  simpa using hu
theorem Dx (l:List Leg) :∀u∈l.flatMap jZ,u.oneCell'=true:=fun u hu=>by
 obtain ⟨x,_,hx⟩ :=jgh.1 hu
 simp only [jZ,je0,jfQ,or_false] at hx
 rcases hx with rfl | rfl | rfl | rfl<;>rfl
abbrev IJ (l:List Leg) (x:Option Addr×Nat) :Res:=JP 0 56 4 l.length (l.flatMap jZ) x
theorem NF (m:Nat) (w:World) (h0:0<m) (hm:m≤1099511627776) :Calls Tryz.prog 72 #[.slice none 0 0, .int .i64 (m:Int)] w fun e w'=>∃v,e= .returned v∧w'.ownsRow w.heap.size 56 4 v 0 []∧Over w w':=by
 refine jU (m:=27) (Tryz.func72) J J (lb J) ?_;refine S10 ?_;refine cZ (fun c1=> ?_) (fun c1=> ?_)
 ·omega
 ·refine S7 ?_;refine a9 (Mo J J j5) ?_;refine S11 ?_;refine cZ (fun c2=> ?_) (fun c2=> ?_)
  ·refine S3 ?_;refine a9 (Mo J J j5) ?_;refine a9 ((kb (h:=0) J J J j5 (jeD _)).as (show sliced none 0 0 0 4= .slice none 0 0 from J)) ?_;refine S1 ?_;refine kx 21 (.int .i64 (m:Int)) J (congrArg _ (by omega)) ?_;refine S1 ?_;refine I0 J j5 Tryz.underlying3 qa (by decide) J J h0 (by unfold maxLen;omega) (by omega) J (by decide) (fun gb gcap=> ?_);refine N2 ?_;refine a9 ((kb (h:=0) J J J j5 (jeE _)).as (VG _ _ _ _ _)) ?_;refine S8 ?_;refine jL J (.tmp J) ?_
   intro w' hs
   have hr:=hs.all 0 _ rfl
   exact⟨_,rfl,KS hr.1 (fun b hb=> (hr.2.1 b hb).elim id (fun h=>by cases h)),hs.fin⟩
  ·omega
theorem NE (w:World) :Calls Tryz.prog 72 #[.slice none 0 0, .int .i64 0] w fun e w'=>e= .returned (.slice none 0 0)∧Over w w':=by
 refine jU (m:=27) (Tryz.func72) J J (lb J) ?_;refine S10 ?_;refine cZ (fun c1=> ?_) (fun c1=> ?_)
 ·omega
 ·refine S7 ?_;refine a9 (Mo J J j5) ?_;refine S11 ?_;refine cZ (fun c2=> ?_) (fun c2=> ?_)
  ·omega
  ·refine S8 ?_;refine jL J (.tmp J) ?_
   intro w' hs
   exact⟨rfl,hs.fin⟩
theorem ND (m:Nat) (w:World) (hm:m≤1099511627776) :Calls Tryz.prog 72 #[.slice none 0 0, .int .i64 (m:Int)] w fun e w'=>∃v,e= .returned v∧w'.ownsRow w.heap.size 56 4 v 0 []∧Over w w':=by
 by_cases h0:0<m
 ·exact NF m w h0 hm
 ·obtain rfl:m=0:=by omega
  exact(NE w).mono fun e w' ⟨h1,h2⟩ =>⟨_,h1,World.ownsRow_nil _ _ _ _,h2⟩
abbrev Sg:= (Option Addr×Nat)×List Leg
def sgA (ss:List Sg) (k:Nat) :Sg:=ss.getD k ((none,0),[])
def W3 (ss:List Sg) (k:Nat) :List Leg:= (ss.take k).flatMap (·.2)
theorem OP {ss:List Sg} {k:Nat} (h:k<ss.length) :W3 ss (k+1) =W3 ss k++ (sgA ss k).2:=by
 unfold W3 sgA
 rw [jeS h,jeQ]
 simp [List.getD,h]
theorem Tk {ss:List Sg} {k j:Nat} (h:k≤j) : (W3 ss k).length≤(W3 ss j).length:=by
 have e:ss.take k= (ss.take j).take k:=by rw [List.take_take,jfI h]
 unfold W3
 rw [e]
 conv=>rhs;rw [←jeU k (ss.take j)]
 rw [jeQ,jeC]
 omega
theorem Fw (b o N C:Nat) (ss:List Sg) (w:World) (hN:ss.length=N) (hb:b<w.heap.size) (hc:∀k,k<N→w.cell? ⟨b,o+k,none⟩ =some (.slice (sgA ss k).1.1 (sgA ss k).2.length (sgA ss k).1.2)) (hp:∀k,k<N→(IJ (sgA ss k).2 (sgA ss k).1).P w)
  (hm: (W3 ss N).length≤1048577) (hN2:N≤1048577) (hN0:0<N) :
  Calls Tryz.prog 41 #[.slice (some ⟨b,o,none⟩) N C] w fun e w'=>∃v,e= .returned v∧w'.ownsRow w.heap.size 56 4 v (W3 ss N).length ((W3 ss N).flatMap jZ)∧Over w w':=by
 refine jU (m:=36) (Tryz.func41) J J (lb J) ?_;refine S16 ?_;refine qi (X:=Nat) (fun k=>k≤N) (fun k=>N- k) (fun k=> [(3, .int .i64 ((W3 ss k).length:Int)),(11, .int .i64 (k:Int))]) (kK [0,2,9,10]) 0 (jeE _) ⟨J,sz⟩ ?_
 intro k hk L hL1
 refine V5 ?_;refine cZ (fun c1=> ?_) (fun c1=> ?_)
 ·have hlt:k<N:= (by omega)
  have hst: (W3 ss (k+1)).length= (W3 ss k).length+ (sgA ss k).2.length:= (by rw [OP (by omega),jeC])
  have hle: (W3 ss (k+1)).length≤(W3 ss N).length:=Tk (by omega)
  refine S7 ?_;refine a9 (jr J J y7 (jb6 (hc k hlt) hb)) ?_;refine S15 ?_;refine cZ (fun c2=> ?_) (fun c2=> ?_)
  ·omega
  ·refine S7 ?_
   exact J8 hL1 (k+1) (by omega) (by omega) ⟨vi (by omega),vi (by omega),sz⟩ (u9 J)
 ·have hkN:k=N:= (by omega)
  subst hkN
  refine S9 ?_;refine jP VW (v:=fun x=> .slice x.1 0 x.2) (r:=fun x=>JP 0 56 4 0 [] x) (H:=fun _=>True) J J J (lb J) (fun w1 hs=>qS (ND _ w1 (by omega))) ?_
  rintro⟨cA,cc⟩ -
  refine N10 ?_;refine JI (X:=Nat×Option Addr×Nat) (fun x=>x.1≤k) (fun x=>k- x.1) (fun x=> [(6, .slice x.2.1 (W3 ss x.1).length x.2.2),(27, .int .i64 (x.1:Int))]) (kK [2,25,26]) (fun x=> [JP 0 56 4 (W3 ss x.1).length ((W3 ss x.1).flatMap jZ) x.2]) (0,cA,cc) (jeE _) ⟨J,sz⟩ (fun _ h=>h) ?_
  intro⟨j,rA,rc⟩ hj L hL2
  refine v9 ?_;refine ji (by first | (dsimp only;done) | (dsimp only;rfl) | rfl) ?_
  have hj:j≤k:=hj
  refine S5 ?_;refine cZ (fun c3=> ?_) (fun c3=> ?_)
  ·have hlt:j<k:= (by omega)
   have hst:W3 ss (j+1) =W3 ss j++ (sgA ss j).2:=OP (by omega)
   have hst2: (W3 ss (j+1)).length= (W3 ss j).length+ (sgA ss j).2.length:= (by rw [hst,jeC])
   have hle: (W3 ss (j+1)).length≤(W3 ss k).length:=Tk (by omega)
   refine S7 ?_;refine a9 (jr J J y7 (jb6 (hc j hlt) hb)) ?_;refine S6 ?_;refine JL (k:=0) J j5 qa (by decide) J (by decide) J J J (fun w' hs=>jcf (q5 (hp j hlt) hs.fin)) (Dx _) (by unfold maxLen;omega) (by omega) (jeE _) (fun r1=> ?_);refine N8 ?_
   exact j8 hL2 ((j+1,r1)) ((show j+1≤k by omega)) (by simp only;omega) ⟨(by rw [hst2];rfl),vi (by omega),sz⟩ (fun _ h=>h.upto ⟨by rw [hst2,hst,jeQ],trivial⟩)
  ·have hjk:j=k:= (by omega)
   subst hjk
   refine S11 ?_;refine jL J (.tmp J) ?_
   intro w' hs
   have hr:=hs.all 0 _ rfl
   exact⟨_,rfl,KS hr.1 (fun b hb=> (hr.2.1 b hb).elim id (fun h=>by cases h)),hs.fin⟩
theorem Tm {b U:Nat} {x1 x2:Option Addr×Nat} {E1 E2:List Leg} {w:World} (hb:w.heap[b]? =some (.cells [.slice x1.1 E1.length x1.2, .slice x2.1 E2.length x2.2].toArray U (0,0))) (h1: (IJ E1 x1).P w) (h2: (IJ E2 x2).P w) (hm:E1.length+E2.length≤1048577) :
  Calls Tryz.prog 41 #[.slice (some ⟨b,0,none⟩) 2 2] w fun e w'=>∃v,e= .returned v∧w'.ownsRow w.heap.size 56 4 v (E1++E2).length ((E1++E2).flatMap jZ)∧Over w w':=by
 have ex:W3 [(x1,E1),(x2,E2)] 2=E1++E2:=by simp [W3]
 have hcell:∀k,w.cell? ⟨b,k,none⟩ = [Value.slice x1.1 E1.length x1.2, .slice x2.1 E2.length x2.2][k]? :=fun k=>by rw [cell_of_row w b k _ U (0,0) hb];simp
 have:=Fw b 0 2 2 [(x1,E1),(x2,E2)] w rfl (JQ hb) (fun j hj=> ?_) (fun j hj=> ?_) (by rw [ex,jeC];omega) (by decide) (by decide)
 ·rw [ex] at this
  exact this
 ·rw [je3,hcell]
  match j,hj with
  | 0,_=>rfl
  | 1,_=>rfl
 ·match j,hj with
  | 0,_=>exact h1
  | 1,_=>exact h2
def M4 (p:Leg) (l r:Bool) :List Leg:=if(l&& !r) =true then [p] else if(r&& !l) =true then [vO p] else []
def Z4 (E1 E2:List Leg) (how:Int) (ks:List Leg) (i:Nat) :List Leg:= (ks.take i).flatMap fun p=>M4 p (Vz (ZY E1 p).left (ZY E2 p).left how) (Vz (ZY E1 p).right (ZY E2 p).right how)
def vq (E1 E2:List Leg) (how:Int) :List Leg:=Z4 E1 E2 how (VK (E1++E2)) (VK (E1++E2)).length
theorem XE {E1 E2:List Leg} {how:Int} {ks:List Leg} {i:Nat} (h:i<ks.length) :Z4 E1 E2 how ks (i+1) =Z4 E1 E2 how ks i++M4 (lg ks i) (Vz (ZY E1 (lg ks i)).left (ZY E2 (lg ks i)).left how) (Vz (ZY E1 (lg ks i)).right (ZY E2 (lg ks i)).right how) :=by
 rw [Z4,jeS h,jeQ,yf h]
 simp [Z4]
theorem Na (p:Leg) (l r:Bool) : (M4 p l r).length≤1:=by
 unfold M4
 split
 ·simp
 ·split<;>simp
theorem Lp {E1 E2:List Leg} {how:Int} {ks:List Leg} :∀i,i≤ks.length→(Z4 E1 E2 how ks i).length≤i
 | 0,_=>by simp [Z4]
 | i+1,h=>by
  have:=Lp (E1:=E1) (E2:=E2) (how:=how) (ks:=ks) i (by omega)
  have h1:=Na (lg ks i) (Vz (ZY E1 (lg ks i)).left (ZY E2 (lg ks i)).left how) (Vz (ZY E1 (lg ks i)).right (ZY E2 (lg ks i)).right how)
  rw [XE (by omega),jeC]
  omega
structure TwoE (E1 E2:List Leg) :Prop where
 ok1:∀l∈E1,qO l
 ok2:∀l∈E2,qO l
 ne1:∀l∈E1,lA l≠lB l
 ne2:∀l∈E2,lA l≠lB l
 lnE:E1.length≤400
 lnF:E2.length≤400
theorem TwoE.ok {E1 E2:List Leg} (h:TwoE E1 E2) :∀l∈E1++E2,qO l:=fun l hl=> (jeY.1 hl).elim (h.ok1 l) (h.ok2 l)
theorem TwoE.ne {E1 E2:List Leg} (h:TwoE E1 E2) :∀l∈E1++E2,lA l≠lB l:=fun l hl=> (jeY.1 hl).elim (h.ne1 l) (h.ne2 l)
theorem xq {es:List Leg} (h1:∀l∈es,qO l) (h2:∀l∈es,lA l≠lB l) {p:Leg} (h:p∈VK es) :Key es p∧∃e∈es,p=Kz e:=by
 obtain ⟨x,hx,rfl⟩ :=je7.1 h
 rcases Wz.1 ⟨x,hx,rfl⟩ with⟨y,hy,_⟩ |⟨e,he,h⟩
 ·cases hy
 ·exact⟨⟨by rw [h];exact ES (h1 e he),by rw [h];exact jdr (h2 e he),by rw [h];exact jbS e⟩,e,he,h⟩
theorem VZ (x1 x2:Option Addr×Nat) (E1 E2:List Leg) (how:Int) (w:World) (h1: (IJ E1 x1).P w) (h2: (IJ E2 x2).P w) (hE:TwoE E1 E2) :
  Calls Tryz.prog 47 #[.slice x1.1 E1.length x1.2, .slice x2.1 E2.length x2.2, .int .i64 how] w fun e w'=>∃v,e= .returned v∧w'.ownsRow w.heap.size 56 4 v (vq E1 E2 how).length ((vq E1 E2 how).flatMap jZ)∧Over w w':=by
 have hl1:=hE.lnE
 have hl2:=hE.lnF
 have hkl: (VK (E1++E2)).length≤800:=by have:=Iv (es:=E1++E2);rw [jeC] at this;omega
 obtain ⟨ks,hks⟩ :∃ks,ks=VK (E1++E2) :=⟨_,rfl⟩
 rw [←hks] at hkl
 refine jU (m:=68) (Tryz.func47) J J (lb J) ?_;refine S7 ?_;refine kz (T:=56) (s:=4) ?_;refine N7 ?_;refine Jp J J (VO J J) J (lb J) (fun b1=> ?_);refine N1 ?_;refine jP kN (v:=fun x=> .slice x.1 (E1++E2).length x.2) (r:=fun x=>JP 0 56 4 (E1++E2).length ((E1++E2).flatMap jZ) x) (H:=fun _=>True) J J J (lb J) (fun w1 hs=>qS (Tm (hs.cel (k:=1) J) (q5 h1 hs.fin) (q5 h2 hs.fin) (by omega))) ?_
 rintro⟨cA,cc⟩ -
 refine N1 ?_;refine jP Ho (v:=fun x=> .slice x.1 ks.length x.2) (r:=fun x=>JP 0 56 4 ks.length (ks.flatMap jZ) x) (H:=fun _=>True) J J J (lb J) (fun w1 hs=>qS (by rw [hks];exact I3 cA _ cc (E1++E2) w1 (UX (hs.all 2 _ J).1 J) hE.ok (by rw [jeC];omega))) ?_
 rintro⟨kA,kc⟩ -
 refine N4 ?_;refine JI (X:=Nat×Option Addr×Nat) (fun x=>x.1≤ks.length) (fun x=>ks.length- x.1) (fun x=> [(7, .slice x.2.1 (Z4 E1 E2 how ks x.1).length x.2.2),(20, .int .i64 (x.1:Int))]) (kK [0,1,2,6,18,19]) (fun x=> [JP (Bs.N ⟨w,[]⟩) 56 4 (Z4 E1 E2 how ks x.1).length ((Z4 E1 E2 how ks x.1).flatMap jZ) x.2, .cel b1 51 [.slice x1.1 E1.length x1.2, .slice x2.1 E2.length x2.2],JP 0 56 4 (E1++E2).length ((E1++E2).flatMap jZ) (cA,cc),JP 0 56 4 ks.length (ks.flatMap jZ) (kA,kc)]) (0,none,0) (jeE _) ⟨J,sz⟩ (fun _ h=>h) ?_
 intro⟨i,rA,rc⟩ hi L hL1
 refine v9 ?_;refine ji (by first | (dsimp only;done) | (dsimp only;rfl) | rfl) ?_
 have hi:i≤ks.length:=hi
 have hbl:=Lp (E1:=E1) (E2:=E2) (how:=how) (ks:=ks) i hi
 refine S5 ?_;refine cZ (fun c1=> ?_) (fun c1=> ?_)
 ·have hlt:i<ks.length:= (by omega)
  obtain ⟨hkey,_⟩ :=xq hE.ok hE.ne (p:=lg ks i) (by rw [←hks,←yf hlt];exact jeW hlt)
  have hst:=XE (E1:=E1) (E2:=E2) (how:=how) hlt
  obtain ⟨p,hp⟩ :∃p,p=lg ks i:=⟨_,rfl⟩
  rw [←hp] at hkey hst
  refine S6 ?_;refine a9 (qx (j:=i) (fun w hs=> (hs.all 3 _ J).1) J J J j5 hlt) ?_;refine a9 (jj J J qp J (jek [.int .i64 p.ax, .int .i64 p.ay, .int .i64 p.bx, .int .i64 p.b_y] 0 (m:=4) (fun _=>rfl) (fun w hs=> (hs.all 3 _ J).1) (jbE hlt) (by omega) (by rw [hp];exact HM J J J J))) ?_;refine S1 ?_;refine aL (fun b2=> ?_);refine N5 ?_;refine Jw 10 ?_;refine dK 0 ?_;refine dK 1 ?_;refine dZ 2 J (jH yV J J (fun w1 hs=>GO x1.1 _ x1.2 E1 p w1 (UX (q5 h1 hs.fin) J) hE.ok1 (by omega) hkey.ok hkey.ne hkey.ord)) ?_;refine dK 3 ?_;refine dK 4 ?_;refine dZ 5 J (jH yV J J (fun w1 hs=>GO x2.1 _ x2.2 E2 p w1 (UX (q5 h2 hs.fin) J) hE.ok2 (by omega) hkey.ok hkey.ne hkey.ord)) ?_;refine Dc (i:=6) (j:=7) J J (by decide) (by decide) (by decide) J J J J (by decide) (by decide) (by decide) J J Qy Qy (by kernel_rfl) (by kernel_rfl) (by kernel_rfl) (u9 J) (fun b3 b4=> ?_);refine n9 ?_;refine Jh (i:=8) J (by decide) (by kernel_rfl) J ?_;refine S1 ?_;refine jJ (u9 J) ?_;refine Jh (i:=9) J (by decide) (by kernel_rfl) J ?_;refine S1 ?_;refine jJ (u9 J) ?_;refine Jj (by kernel_rfl) ?_;refine S3 ?_;refine Jw 14 ?_;refine dK 0 ?_;refine dK 1 ?_;refine dK 2 ?_;refine dK 3 ?_;refine dK 4 ?_;refine dZ 5 J (jH yU J J (fun w1 hs=>ON (ZY E1 p).left (ZY E2 p).left how w1)) ?_;refine dK 6 ?_;refine dK 7 ?_;refine dK 8 ?_;refine dK 9 ?_;refine dK 10 ?_;refine dZ 11 J (jH yU J J (fun w1 hs=>ON (ZY E1 p).right (ZY E2 p).right how w1)) ?_;refine dK 12 ?_;refine dK 13 ?_;refine Jj (by kernel_rfl) ?_
  obtain ⟨lf,hlf⟩ :∃lf,lf=Vz (ZY E1 p).left (ZY E2 p).left how:=⟨_,rfl⟩
  obtain ⟨rf,hrf⟩ :∃rf,rf=Vz (ZY E1 p).right (ZY E2 p).right how:=⟨_,rfl⟩
  rw [←hlf,←hrf] at hst
  rw [←hlf,←hrf]
  refine S2 ?_;refine qd [(42, .bool (lf&& !rf))] (kK [0,1,2,6,18,19,7,20,21,22,23,9,24,25,26,27,28,29,10,11,30,31,32,33,34,35,36,37,38,39,40,41,12,13]) (fun L h_7=> ?_) ?_
  ·refine S3 ?_;refine cV 44 (fun g1=> ?_) (fun g1=> ?_)
   ·refine S7 ?_
    exact Jb h_7 ⟨vb (by rw [g1,jfe]),sz⟩ (u9 J)
   ·refine S5 ?_
    exact Jb h_7 ⟨vb (by rw [g1,jfp]),sz⟩ (u9 J)
  ·refine v9 ?_;refine cZ (fun c2=> ?_) (fun c2=> ?_)
   ·refine S4 ?_;refine Jp J J (Kb J) J (lb J) (fun b5=> ?_);refine N1 ?_;refine JL (k:=0) J j5 qa (by decide) J (by decide) J J J (fun w' hs=>q6 hs (k:=7) J J) (by simp [Value.oneCell']) (by unfold maxLen;omega) (by omega) (jeD _) (fun r1=> ?_);refine N9 ?_
    exact j8 hL1 ((i+1,r1)) ((show i+1≤ks.length by omega)) (by simp only;omega) ⟨(by rw [hst,M4,if_pos c2,jeC];rfl),vi (by omega),sz⟩ (fun _ h=>h.upto ⟨by rw [hst,M4,if_pos c2,jeC,jeQ];rfl,sz⟩)
   ·refine qd [(52, .bool (rf&& !lf))] (kK [0,1,2,6,18,19,7,20,21,22,23,9,24,25,26,27,28,29,10,11,30,31,32,33,34,35,36,37,38,39,40,41,12,13,42]) (fun L h_9=> ?_) ?_
    ·refine S3 ?_;refine cV 54 (fun g2=> ?_) (fun g2=> ?_)
     ·refine S7 ?_
      exact Jb h_9 ⟨vb (by rw [g2,jfe]),sz⟩ (u9 J)
     ·refine S5 ?_
      exact Jb h_9 ⟨vb (by rw [g2,jfp]),sz⟩ (u9 J)
    ·refine v9 ?_;refine cZ (fun c3=> ?_) (fun c3=> ?_)
     ·refine S6 ?_;refine a9 (JV J J (UA J J)) ?_;refine S1 ?_;refine Jp J J (Kb J) J (lb J) (fun b6=> ?_);refine N1 ?_;refine JL (k:=0) J j5 qa (by decide) J (by decide) J J J (fun w' hs=>q6 hs (k:=7) J J) (by simp [Value.oneCell']) (by unfold maxLen;omega) (by omega) (jeD _) (fun r2=> ?_);refine N9 ?_
      exact j8 hL1 ((i+1,r2)) ((show i+1≤ks.length by omega)) (by simp only;omega) ⟨(by rw [hst,M4,if_neg (by rw [c2];simp),if_pos c3,jeC];rfl),vi (by omega),sz⟩ (fun _ h=>h.upto ⟨by rw [hst,M4,if_neg (by rw [c2];simp),if_pos c3,jeC,jeQ];rfl,sz⟩)
     ·refine S8 ?_
      exact j8 hL1 ((i+1,rA,rc)) ((show i+1≤ks.length by omega)) (by simp only;omega) ⟨(by rw [hst,M4,if_neg (by rw [c2];simp),if_neg (by rw [c3];simp),je8];rfl),vi (by omega),sz⟩ (fun _ h=>h.upto ⟨by rw [hst,M4,if_neg (by rw [c2];simp),if_neg (by rw [c3];simp),je8],sz⟩)
 ·have hik:i=ks.length:= (by omega)
  have hbe:Z4 E1 E2 how ks i=vq E1 E2 how:= (by rw [hik,hks];rfl)
  rw [hbe]
  refine S11 ?_;refine jL J (.tmp J) ?_
  intro w' hs
  have hr:=hs.all 0 _ rfl
  exact⟨_,rfl,KS hr.1 (fun b hb=> (hr.2.1 b hb).elim id (fun h=>by cases h)),hs.fin⟩
end Go.Proofs.YtkagkgjjfdkoaaaGreat
