import Derived.Test.YtbahojdbmmjkcaaGreatMNetT
import Derived.Test.YtbahojdbmmjkcaaGreatMTrS
import Derived.Test.YtbahojdbmmjkcaaGreatMTopo4
set_option linter.unusedVariables false
set_option linter.unusedSimpArgs false
namespace Go.Proofs.YtbahojdbmmjkcaaGreat
open Go Go.RowKit
variable {E1 E2:List Leg} {w:World} {x:Option Addr×Nat} {xs:List Value}
set_option maxRecDepth 100000
set_option maxHeartbeats 4000000
def Qg (a b how:Int) :Bool:=if how=1 then(!(a==0)) || (!(b==0)) else if how=2 then(!(a==0)) && (!(b==0)) else if how=3 then(!(a==0)) && !(!(b==0)) else !((!(a==0)) == (!(b==0)))
theorem LC (a b how:Int) (w:World) :Calls Tryz.prog 240 #[.int .i64 a, .int .i64 b, .int .i64 how] w fun e w'=>e= .returned (.bool (Qg a b how))∧Over w w':=by
 refine j6 (m:=36) (Tryz.func240) J J (lb J) ?_;refine S27 ?_;refine cZ (fun c1=> ?_) (fun c1=> ?_)
 ·refine S4 ?_;refine cV 17 (fun g1=> ?_) (fun g1=> ?_)
  ·refine S7 ?_;refine jK J (.tmp J) ?_
   intro w' hs
   exact⟨QF (by simp [Qg, *]),hs.fin⟩
  ·refine S8 ?_;refine jK J (.tmp J) ?_
   intro w' hs
   exact⟨QF (by simp [Qg, *]),hs.fin⟩
 ·refine S5 ?_;refine cZ (fun c2=> ?_) (fun c2=> ?_)
  ·refine S4 ?_;refine cV 23 (fun g2=> ?_) (fun g2=> ?_)
   ·refine S8 ?_;refine jK J (.tmp J) ?_
    intro w' hs
    exact⟨QF (by simp [Qg, *]),hs.fin⟩
   ·refine S7 ?_;refine jK J (.tmp J) ?_
    intro w' hs
    exact⟨QF (by simp [Qg, *]),hs.fin⟩
  ·refine S5 ?_;refine cZ (fun c3=> ?_) (fun c3=> ?_)
   ·refine S4 ?_;refine cV 29 (fun g3=> ?_) (fun g3=> ?_)
    ·refine S10 ?_;refine jK J (.tmp J) ?_
     intro w' hs
     exact⟨QF (by simp [Qg, *]),hs.fin⟩
    ·refine S8 ?_;refine jK J (.tmp J) ?_
     intro w' hs
     exact⟨QF (by simp [Qg, *]),hs.fin⟩
   ·refine S7 ?_;refine a9 (I3 Kh J J J) ?_;refine S3 ?_;refine jK J (.tmp J) ?_
    intro w' hs
    exact⟨QF (by simp [Qg, *]),hs.fin⟩
theorem DV (a b how:Int) (w:World) :Calls Tryz.prog 123 #[.int .i64 a, .int .i64 b, .int .i64 how] w fun e w'=>e= .returned (.bool (Qg a b how))∧Over w w':=by
 refine j6 (m:=36) (Tryz.func123) J J (lb J) ?_;refine S24 ?_;refine cZ (fun c1=> ?_) (fun c1=> ?_)
 ·refine S4 ?_;refine cV 17 (fun g1=> ?_) (fun g1=> ?_)
  ·refine S7 ?_;refine jK J (.tmp J) ?_
   intro w' hs
   exact⟨QF (by simp [Qg, *]),hs.fin⟩
  ·refine S8 ?_;refine jK J (.tmp J) ?_
   intro w' hs
   exact⟨QF (by simp [Qg, *]),hs.fin⟩
 ·refine S5 ?_;refine cZ (fun c2=> ?_) (fun c2=> ?_)
  ·refine S4 ?_;refine cV 23 (fun g2=> ?_) (fun g2=> ?_)
   ·refine S8 ?_;refine jK J (.tmp J) ?_
    intro w' hs
    exact⟨QF (by simp [Qg, *]),hs.fin⟩
   ·refine S7 ?_;refine jK J (.tmp J) ?_
    intro w' hs
    exact⟨QF (by simp [Qg, *]),hs.fin⟩
  ·refine S5 ?_;refine cZ (fun c3=> ?_) (fun c3=> ?_)
   ·refine S4 ?_;refine cV 29 (fun g3=> ?_) (fun g3=> ?_)
    ·refine S10 ?_;refine jK J (.tmp J) ?_
     intro w' hs
     exact⟨QF (by simp [Qg, *]),hs.fin⟩
    ·refine S8 ?_;refine jK J (.tmp J) ?_
     intro w' hs
     exact⟨QF (by simp [Qg, *]),hs.fin⟩
   ·refine S7 ?_;refine a9 (I3 Kh J J J) ?_;refine S3 ?_;refine jK J (.tmp J) ?_
    intro w' hs
    exact⟨QF (by simp [Qg, *]),hs.fin⟩
theorem jgl {B T s m:Nat} (h: (J3 B T s m xs x).P w) :Src s (.slice x.1 m x.2) m xs w:=by
 have h:w.ownsRow B T s (.slice x.1 m x.2) m xs:=h
 refine⟨h.1,?_⟩
 rcases h.2 with⟨e,e0⟩ |⟨g,cap,cur,e,hb,hg,hcap,hmax,hsz,htk⟩
 ·left
  injection e with e1 e2 e3
  rw [e1,e3,e0]
  exact⟨rfl,rfl⟩
 ·right
  injection e with e1 e2 e3
  refine⟨⟨g,0,none⟩,x.2,by rw [e1],fun q u hu=> ?_⟩
  have hq:= (List.getElem?_eq_some_iff.1 hu).1
  rw [←htk,List.getElem?_take,if_pos (by have:=h.1;omega)] at hu
  rw [Q1,jjP,cell_of_row w g q cur T (0,0) hg]
  simpa using hu
theorem IH (l:List Leg) :∀u∈l.flatMap Ji,u.oneCell'=true:=fun u hu=>by
 obtain ⟨x,_,hx⟩ :=jkO.1 hu
 simp only [Ji,jjw,jj8,or_false] at hx
 rcases hx with rfl | rfl | rfl | rfl<;>rfl
abbrev Tj (l:List Leg) (x:Option Addr×Nat) :Res:=J3 0 96 4 l.length (l.flatMap Ji) x
theorem EY (m:Nat) (w:World) (h0:0<m) (hm:m≤1099511627776) :Calls Tryz.prog 108 #[.slice none 0 0, .int .i64 (m:Int)] w fun e w'=>∃v,e= .returned v∧w'.ownsRow w.heap.size 96 4 v 0 []∧Over w w':=by
 refine j6 (m:=27) (Tryz.func108) J J (lb J) ?_;refine S10 ?_;refine cZ (fun c1=> ?_) (fun c1=> ?_)
 ·omega
 ·refine S7 ?_;refine a9 (Bt J J Jk) ?_;refine S11 ?_;refine cZ (fun c2=> ?_) (fun c2=> ?_)
  ·refine S3 ?_;refine a9 (Bt J J Jk) ?_;refine a9 ((Kv (h:=0) J J J Jk (jjm _)).as (show sliced none 0 0 0 4= .slice none 0 0 from J)) ?_;refine S1 ?_;refine WZ 21 (.int .i64 (m:Int)) J (congrArg _ Om) ?_;refine S1 ?_;refine TC J Jk Tryz.underlying3 qm Dc J J h0 (by unfold maxLen;omega) Om J Dc (fun gb gcap=> ?_);refine N2 ?_;refine a9 ((Kv (h:=0) J J J Jk (jjo _)).as (ue _ _ _ _ _)) ?_;refine S8 ?_;refine jK J (.tmp J) ?_
   intro w' hs
   have hr:=hs.all 0 _ rfl
   exact⟨_,rfl,vy hr.1 (fun b hb=> (hr.2.1 b hb).elim id (fun h=>by cases h)),hs.fin⟩
  ·omega
theorem EX (w:World) :Calls Tryz.prog 108 #[.slice none 0 0, .int .i64 0] w fun e w'=>e= .returned (.slice none 0 0)∧Over w w':=by
 refine j6 (m:=27) (Tryz.func108) J J (lb J) ?_;refine S10 ?_;refine cZ (fun c1=> ?_) (fun c1=> ?_)
 ·omega
 ·refine S7 ?_;refine a9 (Bt J J Jk) ?_;refine S11 ?_;refine cZ (fun c2=> ?_) (fun c2=> ?_)
  ·omega
  ·refine S8 ?_;refine jK J (.tmp J) ?_
   intro w' hs
   exact⟨rfl,hs.fin⟩
theorem EW (m:Nat) (w:World) (hm:m≤1099511627776) :Calls Tryz.prog 108 #[.slice none 0 0, .int .i64 (m:Int)] w fun e w'=>∃v,e= .returned v∧w'.ownsRow w.heap.size 96 4 v 0 []∧Over w w':=by
 by_cases h0:0<m
 ·exact EY m w h0 hm
 ·obtain rfl:m=0:=by omega
  exact(EX w).mono fun e w' ⟨h1,h2⟩ =>⟨_,h1,World.ownsRow_nil _ _ _ _,h2⟩
abbrev Sg:= (Option Addr×Nat)×List Leg
def sgA (ss:List Sg) (k:Nat) :Sg:=ss.getD k ((none,0),[])
def Ui (ss:List Sg) (k:Nat) :List Leg:= (ss.take k).flatMap (·.2)
theorem DY {ss:List Sg} {k:Nat} (h:k<ss.length) :Ui ss (k+1) =Ui ss k++ (sgA ss k).2:=by
 unfold Ui sgA
 rw [jjt h,jjv]
 simp [List.getD,h]
theorem Cl {ss:List Sg} {k j:Nat} (h:k≤j) : (Ui ss k).length≤(Ui ss j).length:=by
 have e:ss.take k= (ss.take j).take k:=by rw [List.take_take,jku h]
 unfold Ui
 rw [e]
 conv=>rhs;rw [←jjA k (ss.take j)]
 rw [jjv,jjk]
 omega
theorem RO (b o N C:Nat) (ss:List Sg) (w:World) (hN:ss.length=N) (hb:b<w.heap.size) (hc:∀k,k<N→w.cell? ⟨b,o+k,none⟩ =some (.slice (sgA ss k).1.1 (sgA ss k).2.length (sgA ss k).1.2)) (hp:∀k,k<N→(Tj (sgA ss k).2 (sgA ss k).1).P w) (hm: (Ui ss N).length≤1048577) (hN2:N≤1048577) (hN0:0<N) :
  Calls Tryz.prog 55 #[.slice (some ⟨b,o,none⟩) N C] w fun e w'=>∃v,e= .returned v∧w'.ownsRow w.heap.size 96 4 v (Ui ss N).length ((Ui ss N).flatMap Ji)∧Over w w':=by
 refine j6 (m:=36) (Tryz.func55) J J (lb J) ?_;refine S16 ?_;refine qv (X:=Nat) (fun k=>k≤N) (fun k=>N- k) (fun k=> [(3, .int .i64 ((Ui ss k).length:Int)),(11, .int .i64 (k:Int))]) (kK [0,2,9,10]) 0 (jjo _) ⟨J,sz⟩ ?_
 intro k hk L hL1
 refine V5 ?_;refine cZ (fun c1=> ?_) (fun c1=> ?_)
 ·have hlt:k<N:=Om
  have hst: (Ui ss (k+1)).length= (Ui ss k).length+ (sgA ss k).2.length:= (by rw [DY Om,jjk])
  have hle: (Ui ss (k+1)).length≤(Ui ss N).length:=Cl Om
  refine S7 ?_;refine a9 (jo J J zD (jf4 (hc k hlt) hb)) ?_;refine S15 ?_;refine cZ (fun c2=> ?_) (fun c2=> ?_)
  ·omega
  ·refine S7 ?_
   exact qf hL1 (k+1) Om Om ⟨vi Om,vi Om,sz⟩ (u9 J)
 ·have hkN:k=N:=Om
  subst hkN
  refine S9 ?_;refine JU We (v:=fun x=> .slice x.1 0 x.2) (r:=fun x=>J3 0 96 4 0 [] x) (H:=fun _=>True) J J J (lb J) (fun w1 hs=>Qf (EW _ w1 Om)) ?_
  rintro⟨cA,cc⟩ -
  refine N10 ?_;refine JX (X:=Nat×Option Addr×Nat) (fun x=>x.1≤k) (fun x=>k- x.1) (fun x=> [(6, .slice x.2.1 (Ui ss x.1).length x.2.2),(27, .int .i64 (x.1:Int))]) (kK [2,25,26]) (fun x=> [J3 0 96 4 (Ui ss x.1).length ((Ui ss x.1).flatMap Ji) x.2]) (0,cA,cc) (jjo _) ⟨J,sz⟩ (fun _ h=>h) ?_
  intro⟨j,rA,rc⟩ hj L hL2
  refine v9 ?_;refine r9 ?_
  have hj:j≤k:=hj
  refine S5 ?_;refine cZ (fun c3=> ?_) (fun c3=> ?_)
  ·have hlt:j<k:=Om
   have hst:Ui ss (j+1) =Ui ss j++ (sgA ss j).2:=DY Om
   have hst2: (Ui ss (j+1)).length= (Ui ss j).length+ (sgA ss j).2.length:= (by rw [hst,jjk])
   have hle: (Ui ss (j+1)).length≤(Ui ss k).length:=Cl Om
   refine S7 ?_;refine a9 (jo J J zD (jf4 (hc j hlt) hb)) ?_;refine S6 ?_;refine JY (k:=0) J Jk qm Dc J Dc J J J (fun w' hs=>jgl (Qr (hp j hlt) hs.fin)) (IH _) (by unfold maxLen;omega) Om (jjo _) (fun r1=> ?_);refine N8 ?_
   exact Jq hL2 ((j+1,r1)) ((show j+1≤k by omega)) (by simp only;omega) ⟨(by rw [hst2];rfl),vi Om,sz⟩ (fun _ h=>h.upto ⟨by rw [hst2,hst,jjv],trivial⟩)
  ·have hjk:j=k:=Om
   subst hjk
   refine S11 ?_;refine jK J (.tmp J) ?_
   intro w' hs
   have hr:=hs.all 0 _ rfl
   exact⟨_,rfl,vy hr.1 (fun b hb=> (hr.2.1 b hb).elim id (fun h=>by cases h)),hs.fin⟩
theorem Cp {b U:Nat} {x1 x2:Option Addr×Nat} (hb:w.heap[b]? =some (.cells [.slice x1.1 E1.length x1.2, .slice x2.1 E2.length x2.2].toArray U (0,0))) (h1: (Tj E1 x1).P w) (h2: (Tj E2 x2).P w) (hm:E1.length+E2.length≤1048577) :
  Calls Tryz.prog 55 #[.slice (some ⟨b,0,none⟩) 2 2] w fun e w'=>∃v,e= .returned v∧w'.ownsRow w.heap.size 96 4 v (E1++E2).length ((E1++E2).flatMap Ji)∧Over w w':=by
 have ex:Ui [(x1,E1),(x2,E2)] 2=E1++E2:=by simp [Ui]
 have hcell:∀k,w.cell? ⟨b,k,none⟩ = [Value.slice x1.1 E1.length x1.2, .slice x2.1 E2.length x2.2][k]? :=fun k=>by rw [cell_of_row w b k _ U (0,0) hb];simp
 have:=RO b 0 2 2 [(x1,E1),(x2,E2)] w rfl (JT hb) (fun j hj=> ?_) (fun j hj=> ?_) (by rw [ex,jjk];omega) Dc Dc
 ·rw [ex] at this
  exact this
 ·rw [jjP,hcell]
  match j,hj with
  | 0,_=>rfl
  | 1,_=>rfl
 ·match j,hj with
  | 0,_=>exact h1
  | 1,_=>exact h2
def zK (p:Leg) (l r:Bool) :List Leg:=if(l&& !r) =true then [p] else if(r&& !l) =true then [ku p] else []
def xG (E1 E2:List Leg) (how:Int) (ks:List Leg) (i:Nat) :List Leg:= (ks.take i).flatMap fun p=>zK p (Qg (kZ E1 p).left (kZ E2 p).left how) (Qg (kZ E1 p).right (kZ E2 p).right how)
def vH (E1 E2:List Leg) (how:Int) :List Leg:=xG E1 E2 how (Ko (E1++E2)) (Ko (E1++E2)).length
theorem G7 {how:Int} {ks:List Leg} {i:Nat} (h:i<ks.length) :xG E1 E2 how ks (i+1) =xG E1 E2 how ks i++zK (lg ks i) (Qg (kZ E1 (lg ks i)).left (kZ E2 (lg ks i)).left how) (Qg (kZ E1 (lg ks i)).right (kZ E2 (lg ks i)).right how) :=by
 rw [xG,jjt h,jjv,ye h]
 simp [xG]
theorem Et (p:Leg) (l r:Bool) : (zK p l r).length≤1:=by
 unfold zK
 split
 ·simp
 ·split<;>simp
theorem Of {E1 E2:List Leg} {how:Int} {ks:List Leg} :∀i,i≤ks.length→(xG E1 E2 how ks i).length≤i
 | 0,_=>by simp [xG]
 | i+1,h=>by
  have:=Of (E1:=E1) (E2:=E2) (how:=how) (ks:=ks) i Om
  have h1:=Et (lg ks i) (Qg (kZ E1 (lg ks i)).left (kZ E2 (lg ks i)).left how) (Qg (kZ E1 (lg ks i)).right (kZ E2 (lg ks i)).right how)
  rw [G7 Om,jjk]
  omega
structure TwoE (E1 E2:List Leg) :Prop where
 ok1:∀l∈E1,qM l
 ok2:∀l∈E2,qM l
 ne1:∀l∈E1,lA l≠lB l
 ne2:∀l∈E2,lA l≠lB l
 lnE:E1.length≤400
 lnF:E2.length≤400
theorem TwoE.ok (h:TwoE E1 E2) :∀l∈E1++E2,qM l:=fun l hl=> (jjz.1 hl).elim (h.ok1 l) (h.ok2 l)
theorem TwoE.ne (h:TwoE E1 E2) :∀l∈E1++E2,lA l≠lB l:=fun l hl=> (jjz.1 hl).elim (h.ne1 l) (h.ne2 l)
theorem ZY {es:List Leg} (h1:∀l∈es,qM l) (h2:∀l∈es,lA l≠lB l) {p:Leg} (h:p∈Ko es) :Key es p∧∃e∈es,p=Q3 e:=by
 obtain ⟨x,hx,rfl⟩ :=jjx.1 h
 rcases Ws.1 ⟨x,hx,rfl⟩ with⟨y,hy,_⟩ |⟨e,he,h⟩
 ·cases hy
 ·exact⟨⟨by rw [h];exact jdn (h1 e he),by rw [h];exact jhB (h2 e he),by rw [h];exact jfM e⟩,e,he,h⟩
theorem Wj (x1 x2:Option Addr×Nat) (E1 E2:List Leg) (how:Int) (w:World) (h1: (Tj E1 x1).P w) (h2: (Tj E2 x2).P w) (hE:TwoE E1 E2) :
  Calls Tryz.prog 61 #[.slice x1.1 E1.length x1.2, .slice x2.1 E2.length x2.2, .int .i64 how] w fun e w'=>∃v,e= .returned v∧w'.ownsRow w.heap.size 96 4 v (vH E1 E2 how).length ((vH E1 E2 how).flatMap Ji)∧Over w w':=by
 have hl1:=hE.lnE
 have hl2:=hE.lnF
 have hkl: (Ko (E1++E2)).length≤800:=by have:=SV (es:=E1++E2);rw [jjk] at this;omega
 obtain ⟨ks,hks⟩ :∃ks,ks=Ko (E1++E2) :=⟨_,rfl⟩
 rw [←hks] at hkl
 refine j6 (m:=68) (Tryz.func61) J J (lb J) ?_;refine S7 ?_;refine kt (T:=96) (s:=4) ?_;refine N7 ?_;refine Jy J J (wX J J) J (lb J) (fun b1=> ?_);refine N1 ?_;refine JU Kp (v:=fun x=> .slice x.1 (E1++E2).length x.2) (r:=fun x=>J3 0 96 4 (E1++E2).length ((E1++E2).flatMap Ji) x) (H:=fun _=>True) J J J (lb J) (fun w1 hs=>Qf (Cp (hs.cel (k:=1) J) (Qr h1 hs.fin) (Qr h2 hs.fin) Om)) ?_
 rintro⟨cA,cc⟩ -
 refine N1 ?_;refine JU Mj (v:=fun x=> .slice x.1 ks.length x.2) (r:=fun x=>J3 0 96 4 ks.length (ks.flatMap Ji) x) (H:=fun _=>True) J J J (lb J) (fun w1 hs=>Qf (by rw [hks];exact TE cA _ cc (E1++E2) w1 (Yp (hs.all 2 _ J).1 J) hE.ok (by rw [jjk];omega))) ?_
 rintro⟨kA,kc⟩ -
 refine N4 ?_;refine JX (X:=Nat×Option Addr×Nat) (fun x=>x.1≤ks.length) (fun x=>ks.length- x.1) (fun x=> [(7, .slice x.2.1 (xG E1 E2 how ks x.1).length x.2.2),(20, .int .i64 (x.1:Int))]) (kK [0,1,2,6,18,19]) (fun x=> [J3 (Bs.N ⟨w,[]⟩) 96 4 (xG E1 E2 how ks x.1).length ((xG E1 E2 how ks x.1).flatMap Ji) x.2, .cel b1 93 [.slice x1.1 E1.length x1.2, .slice x2.1 E2.length x2.2],J3 0 96 4 (E1++E2).length ((E1++E2).flatMap Ji) (cA,cc),J3 0 96 4 ks.length (ks.flatMap Ji) (kA,kc)]) (0,none,0) (jjo _) ⟨J,sz⟩ (fun _ h=>h) ?_
 intro⟨i,rA,rc⟩ hi L hL1
 refine v9 ?_;refine r9 ?_
 have hi:i≤ks.length:=hi
 have hbl:=Of (E1:=E1) (E2:=E2) (how:=how) (ks:=ks) i hi
 refine S5 ?_;refine cZ (fun c1=> ?_) (fun c1=> ?_)
 ·have hlt:i<ks.length:=Om
  obtain ⟨hkey,_⟩ :=ZY hE.ok hE.ne (p:=lg ks i) (by rw [←hks,←ye hlt];exact jju hlt)
  have hst:=G7 (E1:=E1) (E2:=E2) (how:=how) hlt
  obtain ⟨p,hp⟩ :∃p,p=lg ks i:=⟨_,rfl⟩
  rw [←hp] at hkey hst
  refine S6 ?_;refine a9 (qQ (j:=i) (fun w hs=> (hs.all 3 _ J).1) J J J Jk hlt) ?_;refine a9 (jl J J qI J (ji9 [.int .i64 p.ax, .int .i64 p.ay, .int .i64 p.bx, .int .i64 p.b_y] 0 (m:=4) (fun _=>rfl) (fun w hs=> (hs.all 3 _ J).1) (jft hlt) Om (by rw [hp];exact MF J J J J))) ?_;refine S1 ?_;refine aL (fun b2=> ?_);refine N5 ?_;refine JS 10 ?_;refine dK 0 ?_;refine dK 1 ?_;refine dZ 2 J (jM zp J J (fun w1 hs=>LJ x1.1 _ x1.2 E1 p w1 (Yp (Qr h1 hs.fin) J) hE.ok1 Om hkey.ok hkey.ne hkey.ord)) ?_;refine dK 3 ?_;refine dK 4 ?_;refine dZ 5 J (jM zp J J (fun w1 hs=>LJ x2.1 _ x2.2 E2 p w1 (Yp (Qr h2 hs.fin) J) hE.ok2 Om hkey.ok hkey.ne hkey.ord)) ?_;refine Ih (i:=6) (j:=7) J J Dc Dc Dc J J J J Dc Dc Dc J J QR QR Kr Kr Kr (u9 J) (fun b3 b4=> ?_);refine n9 ?_;refine J7 (i:=8) J Dc Kr J ?_;refine S1 ?_;refine JN (u9 J) ?_;refine J7 (i:=9) J Dc Kr J ?_;refine S1 ?_;refine JN (u9 J) ?_;refine JJ Kr ?_;refine S3 ?_;refine JS 14 ?_;refine dK 0 ?_;refine dK 1 ?_;refine dK 2 ?_;refine dK 3 ?_;refine dK 4 ?_;refine dZ 5 J (jM zo J J (fun w1 hs=>DV (kZ E1 p).left (kZ E2 p).left how w1)) ?_;refine dK 6 ?_;refine dK 7 ?_;refine dK 8 ?_;refine dK 9 ?_;refine dK 10 ?_;refine dZ 11 J (jM zo J J (fun w1 hs=>DV (kZ E1 p).right (kZ E2 p).right how w1)) ?_;refine dK 12 ?_;refine dK 13 ?_;refine JJ Kr ?_
  obtain ⟨lf,hlf⟩ :∃lf,lf=Qg (kZ E1 p).left (kZ E2 p).left how:=⟨_,rfl⟩
  obtain ⟨rf,hrf⟩ :∃rf,rf=Qg (kZ E1 p).right (kZ E2 p).right how:=⟨_,rfl⟩
  rw [←hlf,←hrf] at hst
  rw [←hlf,←hrf]
  refine S2 ?_;refine qt [(42, .bool (lf&& !rf))] (kK [0,1,2,6,18,19,7,20,21,22,23,9,24,25,26,27,28,29,10,11,30,31,32,33,34,35,36,37,38,39,40,41,12,13]) (fun L h_7=> ?_) ?_
  ·refine S3 ?_;refine cV 44 (fun g1=> ?_) (fun g1=> ?_)
   ·refine S7 ?_
    exact Jo h_7 ⟨vb (by rw [g1,jjG]),sz⟩ (u9 J)
   ·refine S5 ?_
    exact Jo h_7 ⟨vb (by rw [g1,jjU]),sz⟩ (u9 J)
  ·refine v9 ?_;refine cZ (fun c2=> ?_) (fun c2=> ?_)
   ·refine S4 ?_;refine Jy J J (KD J) J (lb J) (fun b5=> ?_);refine N1 ?_;refine JY (k:=0) J Jk qm Dc J Dc J J J (fun w' hs=>Qb hs (k:=7) J J) (by simp [Value.oneCell']) (by unfold maxLen;omega) Om (jjm _) (fun r1=> ?_);refine N9 ?_
    exact Jq hL1 ((i+1,r1)) ((show i+1≤ks.length by omega)) (by simp only;omega) ⟨(by rw [hst,zK,if_pos c2,jjk];rfl),vi Om,sz⟩ (fun _ h=>h.upto ⟨by rw [hst,zK,if_pos c2,jjk,jjv];rfl,sz⟩)
   ·refine qt [(52, .bool (rf&& !lf))] (kK [0,1,2,6,18,19,7,20,21,22,23,9,24,25,26,27,28,29,10,11,30,31,32,33,34,35,36,37,38,39,40,41,12,13,42]) (fun L h_9=> ?_) ?_
    ·refine S3 ?_;refine cV 54 (fun g2=> ?_) (fun g2=> ?_)
     ·refine S7 ?_
      exact Jo h_9 ⟨vb (by rw [g2,jjG]),sz⟩ (u9 J)
     ·refine S5 ?_
      exact Jo h_9 ⟨vb (by rw [g2,jjU]),sz⟩ (u9 J)
    ·refine v9 ?_;refine cZ (fun c3=> ?_) (fun c3=> ?_)
     ·refine S6 ?_;refine a9 (JR J J (yX J J)) ?_;refine S1 ?_;refine Jy J J (KD J) J (lb J) (fun b6=> ?_);refine N1 ?_;refine JY (k:=0) J Jk qm Dc J Dc J J J (fun w' hs=>Qb hs (k:=7) J J) (by simp [Value.oneCell']) (by unfold maxLen;omega) Om (jjm _) (fun r2=> ?_);refine N9 ?_
      exact Jq hL1 ((i+1,r2)) ((show i+1≤ks.length by omega)) (by simp only;omega) ⟨(by rw [hst,zK,if_neg (by rw [c2];simp),if_pos c3,jjk];rfl),vi Om,sz⟩ (fun _ h=>h.upto ⟨by rw [hst,zK,if_neg (by rw [c2];simp),if_pos c3,jjk,jjv];rfl,sz⟩)
     ·refine S8 ?_
      exact Jq hL1 ((i+1,rA,rc)) ((show i+1≤ks.length by omega)) (by simp only;omega) ⟨(by rw [hst,zK,if_neg (by rw [c2];simp),if_neg (by rw [c3];simp),jjL];rfl),vi Om,sz⟩ (fun _ h=>h.upto ⟨by rw [hst,zK,if_neg (by rw [c2];simp),if_neg (by rw [c3];simp),jjL],sz⟩)
 ·have hik:i=ks.length:=Om
  have hbe:xG E1 E2 how ks i=vH E1 E2 how:= (by rw [hik,hks];rfl)
  rw [hbe]
  refine S11 ?_;refine jK J (.tmp J) ?_
  intro w' hs
  have hr:=hs.all 0 _ rfl
  exact⟨_,rfl,vy hr.1 (fun b hb=> (hr.2.1 b hb).elim id (fun h=>by cases h)),hs.fin⟩
end Go.Proofs.YtbahojdbmmjkcaaGreat
