import Derived.Test.YtpncbbcmoiiipaaGreatKNetT
import Derived.Test.YtpncbbcmoiiipaaGreatKTrS
import Derived.Test.YtpncbbcmoiiipaaGreatKSnapG
set_option linter.unusedVariables false
set_option linter.unusedSimpArgs false
namespace Go.Proofs.YtpncbbcmoiiipaaGreat
open Go Go.RowKit
set_option maxRecDepth 100000
set_option maxHeartbeats 4000000
def Qy (a b how:Int) :Bool:=if how=1 then(!(a==0)) || (!(b==0)) else if how=2 then(!(a==0)) && (!(b==0)) else if how=3 then(!(a==0)) && !(!(b==0)) else !((!(a==0)) == (!(b==0)))
theorem H7 (a b how:Int) (w:World) :Calls Tryz.prog 193 #[.int .i64 a, .int .i64 b, .int .i64 how] w fun e w'=>e= .returned (.bool (Qy a b how))∧Over w w':=by
 refine Jh (m:=36) (Tryz.func193) J J (lb J) ?_;refine S27 ?_;refine cZ (fun c1=> ?_) (fun c1=> ?_)
 ·refine S4 ?_;refine cV 17 (fun g1=> ?_) (fun g1=> ?_)
  ·refine S7 ?_;refine jM J (.tmp J) ?_
   intro w' hs
   exact⟨QH (by simp [Qy, *]),hs.fin⟩
  ·refine S8 ?_;refine jM J (.tmp J) ?_
   intro w' hs
   exact⟨QH (by simp [Qy, *]),hs.fin⟩
 ·refine S5 ?_;refine cZ (fun c2=> ?_) (fun c2=> ?_)
  ·refine S4 ?_;refine cV 23 (fun g2=> ?_) (fun g2=> ?_)
   ·refine S8 ?_;refine jM J (.tmp J) ?_
    intro w' hs
    exact⟨QH (by simp [Qy, *]),hs.fin⟩
   ·refine S7 ?_;refine jM J (.tmp J) ?_
    intro w' hs
    exact⟨QH (by simp [Qy, *]),hs.fin⟩
  ·refine S5 ?_;refine cZ (fun c3=> ?_) (fun c3=> ?_)
   ·refine S4 ?_;refine cV 29 (fun g3=> ?_) (fun g3=> ?_)
    ·refine S10 ?_;refine jM J (.tmp J) ?_
     intro w' hs
     exact⟨QH (by simp [Qy, *]),hs.fin⟩
    ·refine S8 ?_;refine jM J (.tmp J) ?_
     intro w' hs
     exact⟨QH (by simp [Qy, *]),hs.fin⟩
   ·refine S7 ?_;refine a9 (Iq Bh J J J) ?_;refine S3 ?_;refine jM J (.tmp J) ?_
    intro w' hs
    exact⟨QH (by simp [Qy, *]),hs.fin⟩
theorem Dj (a b how:Int) (w:World) :Calls Tryz.prog 176 #[.int .i64 a, .int .i64 b, .int .i64 how] w fun e w'=>e= .returned (.bool (Qy a b how))∧Over w w':=by
 refine Jh (m:=36) (Tryz.func176) J J (lb J) ?_;refine S24 ?_;refine cZ (fun c1=> ?_) (fun c1=> ?_)
 ·refine S4 ?_;refine cV 17 (fun g1=> ?_) (fun g1=> ?_)
  ·refine S7 ?_;refine jM J (.tmp J) ?_
   intro w' hs
   exact⟨QH (by simp [Qy, *]),hs.fin⟩
  ·refine S8 ?_;refine jM J (.tmp J) ?_
   intro w' hs
   exact⟨QH (by simp [Qy, *]),hs.fin⟩
 ·refine S5 ?_;refine cZ (fun c2=> ?_) (fun c2=> ?_)
  ·refine S4 ?_;refine cV 23 (fun g2=> ?_) (fun g2=> ?_)
   ·refine S8 ?_;refine jM J (.tmp J) ?_
    intro w' hs
    exact⟨QH (by simp [Qy, *]),hs.fin⟩
   ·refine S7 ?_;refine jM J (.tmp J) ?_
    intro w' hs
    exact⟨QH (by simp [Qy, *]),hs.fin⟩
  ·refine S5 ?_;refine cZ (fun c3=> ?_) (fun c3=> ?_)
   ·refine S4 ?_;refine cV 29 (fun g3=> ?_) (fun g3=> ?_)
    ·refine S10 ?_;refine jM J (.tmp J) ?_
     intro w' hs
     exact⟨QH (by simp [Qy, *]),hs.fin⟩
    ·refine S8 ?_;refine jM J (.tmp J) ?_
     intro w' hs
     exact⟨QH (by simp [Qy, *]),hs.fin⟩
   ·refine S7 ?_;refine a9 (Iq Bh J J J) ?_;refine S3 ?_;refine jM J (.tmp J) ?_
    intro w' hs
    exact⟨QH (by simp [Qy, *]),hs.fin⟩
theorem jfw {w:World} {B T s m:Nat} {xs:List Value} {x:Option Addr×Nat} (h: (JY B T s m xs x).P w) :Src s (.slice x.1 m x.2) m xs w:=by
 have h:w.ownsRow B T s (.slice x.1 m x.2) m xs:=h
 refine⟨h.1,?_⟩
 rcases h.2 with⟨e,e0⟩ |⟨g,cap,cur,e,hb,hg,hcap,hmax,hsz,htk⟩
 ·left
  injection e with e1 e2 e3
  rw [e1,e3,e0]
  exact⟨rfl,rfl⟩
 ·right
  injection e with e1 e2 e3
  refine⟨⟨g,0,none⟩,x.2,by rw [e1],fun q u hu=> ?_⟩
  have hq:= (List.getElem?_eq_some_iff.1 hu).1
  rw [←htk,List.getElem?_take,if_pos (by have:=h.1;omega)] at hu
  rw [Q1,jiL,cell_of_row w g q cur T (0,0) hg]
  simpa using hu
theorem F3 (l:List Leg) :∀u∈l.flatMap jZ,u.oneCell'=true:=fun u hu=>by
 obtain ⟨x,_,hx⟩ :=jjL.1 hu
 simp only [jZ,jir,ji3,or_false] at hx
 rcases hx with rfl | rfl | rfl | rfl<;>rfl
abbrev Sz (l:List Leg) (x:Option Addr×Nat) :Res:=JY 0 131 4 l.length (l.flatMap jZ) x
theorem Ec (m:Nat) (w:World) (h0:0<m) (hm:m≤1099511627776) :Calls Tryz.prog 162 #[.slice none 0 0, .int .i64 (m:Int)] w fun e w'=>∃v,e= .returned v∧w'.ownsRow w.heap.size 131 4 v 0 []∧Over w w':=by
 refine Jh (m:=27) (Tryz.func162) J J (lb J) ?_;refine S10 ?_;refine cZ (fun c1=> ?_) (fun c1=> ?_)
 ·omega
 ·refine S7 ?_;refine a9 (ON J J Jf) ?_;refine S11 ?_;refine cZ (fun c2=> ?_) (fun c2=> ?_)
  ·refine S3 ?_;refine a9 (ON J J Jf) ?_;refine a9 ((Kl (h:=0) J J J Jf (jih _)).as (show sliced none 0 0 0 4= .slice none 0 0 from J)) ?_;refine S1 ?_;refine W7 21 (.int .i64 (m:Int)) J (congrArg _ Om) ?_;refine S1 ?_;refine SR J Jf Tryz.underlying3 qn Dc J J h0 (by unfold maxLen;omega) Om J Dc (fun gb gcap=> ?_);refine N2 ?_;refine a9 ((Kl (h:=0) J J J Jf (jii _)).as (WT _ _ _ _ _)) ?_;refine S8 ?_;refine jM J (.tmp J) ?_
   intro w' hs
   have hr:=hs.all 0 _ rfl
   exact⟨_,rfl,vv hr.1 (fun b hb=> (hr.2.1 b hb).elim id (fun h=>by cases h)),hs.fin⟩
  ·omega
theorem Eb (w:World) :Calls Tryz.prog 162 #[.slice none 0 0, .int .i64 0] w fun e w'=>e= .returned (.slice none 0 0)∧Over w w':=by
 refine Jh (m:=27) (Tryz.func162) J J (lb J) ?_;refine S10 ?_;refine cZ (fun c1=> ?_) (fun c1=> ?_)
 ·omega
 ·refine S7 ?_;refine a9 (ON J J Jf) ?_;refine S11 ?_;refine cZ (fun c2=> ?_) (fun c2=> ?_)
  ·omega
  ·refine S8 ?_;refine jM J (.tmp J) ?_
   intro w' hs
   exact⟨rfl,hs.fin⟩
theorem Ea (m:Nat) (w:World) (hm:m≤1099511627776) :Calls Tryz.prog 162 #[.slice none 0 0, .int .i64 (m:Int)] w fun e w'=>∃v,e= .returned v∧w'.ownsRow w.heap.size 131 4 v 0 []∧Over w w':=by
 by_cases h0:0<m
 ·exact Ec m w h0 hm
 ·obtain rfl:m=0:=by omega
  exact(Eb w).mono fun e w' ⟨h1,h2⟩ =>⟨_,h1,World.ownsRow_nil _ _ _ _,h2⟩
abbrev Sg:= (Option Addr×Nat)×List Leg
def sgA (ss:List Sg) (k:Nat) :Sg:=ss.getD k ((none,0),[])
def uT (ss:List Sg) (k:Nat) :List Leg:= (ss.take k).flatMap (·.2)
theorem Dl {ss:List Sg} {k:Nat} (h:k<ss.length) :uT ss (k+1) =uT ss k++ (sgA ss k).2:=by
 unfold uT sgA
 rw [jin h,jio]
 simp [List.getD,h]
theorem Px {ss:List Sg} {k j:Nat} (h:k≤j) : (uT ss k).length≤(uT ss j).length:=by
 have e:ss.take k= (ss.take j).take k:=by rw [List.take_take,jjm h]
 unfold uT
 rw [e]
 conv=>rhs;rw [←jiw k (ss.take j)]
 rw [jio,jif]
 omega
theorem Rc (b o N C:Nat) (ss:List Sg) (w:World) (hN:ss.length=N) (hb:b<w.heap.size) (hc:∀k,k<N→w.cell? ⟨b,o+k,none⟩ =some (.slice (sgA ss k).1.1 (sgA ss k).2.length (sgA ss k).1.2)) (hp:∀k,k<N→(Sz (sgA ss k).2 (sgA ss k).1).P w)
  (hm: (uT ss N).length≤1048577) (hN2:N≤1048577) (hN0:0<N) :
  Calls Tryz.prog 105 #[.slice (some ⟨b,o,none⟩) N C] w fun e w'=>∃v,e= .returned v∧w'.ownsRow w.heap.size 131 4 v (uT ss N).length ((uT ss N).flatMap jZ)∧Over w w':=by
 refine Jh (m:=36) (Tryz.func105) J J (lb J) ?_;refine S16 ?_;refine qz (X:=Nat) (fun k=>k≤N) (fun k=>N- k) (fun k=> [(3, .int .i64 ((uT ss k).length:Int)),(11, .int .i64 (k:Int))]) (kK [0,2,9,10]) 0 (jii _) ⟨J,sz⟩ ?_
 intro k hk L hL1
 refine V5 ?_;refine cZ (fun c1=> ?_) (fun c1=> ?_)
 ·have hlt:k<N:=Om
  have hst: (uT ss (k+1)).length= (uT ss k).length+ (sgA ss k).2.length:= (by rw [Dl Om,jif])
  have hle: (uT ss (k+1)).length≤(uT ss N).length:=Px Om
  refine S7 ?_;refine a9 (jn J J Y8 (jfj (hc k hlt) hb)) ?_;refine S15 ?_;refine cZ (fun c2=> ?_) (fun c2=> ?_)
  ·omega
  ·refine S7 ?_
   exact qi hL1 (k+1) Om Om ⟨vi Om,vi Om,sz⟩ (u9 J)
 ·have hkN:k=N:=Om
  subst hkN
  refine S9 ?_;refine J4 wJ (v:=fun x=> .slice x.1 0 x.2) (r:=fun x=>JY 0 131 4 0 [] x) (H:=fun _=>True) J J J (lb J) (fun w1 hs=>Qh (Ea _ w1 Om)) ?_
  rintro⟨cA,cc⟩ -
  refine N10 ?_;refine JQ (X:=Nat×Option Addr×Nat) (fun x=>x.1≤k) (fun x=>k- x.1) (fun x=> [(6, .slice x.2.1 (uT ss x.1).length x.2.2),(27, .int .i64 (x.1:Int))]) (kK [2,25,26]) (fun x=> [JY 0 131 4 (uT ss x.1).length ((uT ss x.1).flatMap jZ) x.2]) (0,cA,cc) (jii _) ⟨J,sz⟩ (fun _ h=>h) ?_
  intro⟨j,rA,rc⟩ hj L hL2
  refine v9 ?_;refine r9 ?_
  have hj:j≤k:=hj
  refine S5 ?_;refine cZ (fun c3=> ?_) (fun c3=> ?_)
  ·have hlt:j<k:=Om
   have hst:uT ss (j+1) =uT ss j++ (sgA ss j).2:=Dl Om
   have hst2: (uT ss (j+1)).length= (uT ss j).length+ (sgA ss j).2.length:= (by rw [hst,jif])
   have hle: (uT ss (j+1)).length≤(uT ss k).length:=Px Om
   refine S7 ?_;refine a9 (jn J J Y8 (jfj (hc j hlt) hb)) ?_;refine S6 ?_;refine JV (k:=0) J Jf qn Dc J Dc J J J (fun w' hs=>jfw (ke (hp j hlt) hs.fin)) (F3 _) (by unfold maxLen;omega) Om (jii _) (fun r1=> ?_);refine N8 ?_
   exact Ji hL2 ((j+1,r1)) ((show j+1≤k by omega)) (by simp only;omega) ⟨(by rw [hst2];rfl),vi Om,sz⟩ (fun _ h=>h.upto ⟨by rw [hst2,hst,jio],trivial⟩)
  ·have hjk:j=k:=Om
   subst hjk
   refine S11 ?_;refine jM J (.tmp J) ?_
   intro w' hs
   have hr:=hs.all 0 _ rfl
   exact⟨_,rfl,vv hr.1 (fun b hb=> (hr.2.1 b hb).elim id (fun h=>by cases h)),hs.fin⟩
theorem PB {b U:Nat} {x1 x2:Option Addr×Nat} {E1 E2:List Leg} {w:World} (hb:w.heap[b]? =some (.cells [.slice x1.1 E1.length x1.2, .slice x2.1 E2.length x2.2].toArray U (0,0))) (h1: (Sz E1 x1).P w) (h2: (Sz E2 x2).P w) (hm:E1.length+E2.length≤1048577) :
  Calls Tryz.prog 105 #[.slice (some ⟨b,0,none⟩) 2 2] w fun e w'=>∃v,e= .returned v∧w'.ownsRow w.heap.size 131 4 v (E1++E2).length ((E1++E2).flatMap jZ)∧Over w w':=by
 have ex:uT [(x1,E1),(x2,E2)] 2=E1++E2:=by simp [uT]
 have hcell:∀k,w.cell? ⟨b,k,none⟩ = [Value.slice x1.1 E1.length x1.2, .slice x2.1 E2.length x2.2][k]? :=fun k=>by rw [cell_of_row w b k _ U (0,0) hb];simp
 have:=Rc b 0 2 2 [(x1,E1),(x2,E2)] w rfl (J3 hb) (fun j hj=> ?_) (fun j hj=> ?_) (by rw [ex,jif];omega) Dc Dc
 ·rw [ex] at this
  exact this
 ·rw [jiL,hcell]
  match j,hj with
  | 0,_=>rfl
  | 1,_=>rfl
 ·match j,hj with
  | 0,_=>exact h1
  | 1,_=>exact h2
def zk (p:Leg) (l r:Bool) :List Leg:=if(l&& !r) =true then [p] else if(r&& !l) =true then [Qn p] else []
def xe (E1 E2:List Leg) (how:Int) (ks:List Leg) (i:Nat) :List Leg:= (ks.take i).flatMap fun p=>zk p (Qy (kX E1 p).left (kX E2 p).left how) (Qy (kX E1 p).right (kX E2 p).right how)
def vn (E1 E2:List Leg) (how:Int) :List Leg:=xe E1 E2 how (KI (E1++E2)) (KI (E1++E2)).length
theorem GB {E1 E2:List Leg} {how:Int} {ks:List Leg} {i:Nat} (h:i<ks.length) :xe E1 E2 how ks (i+1) =xe E1 E2 how ks i++zk (lg ks i) (Qy (kX E1 (lg ks i)).left (kX E2 (lg ks i)).left how) (Qy (kX E1 (lg ks i)).right (kX E2 (lg ks i)).right how) :=by
 rw [xe,jin h,jio,Uz h]
 simp [xe]
theorem CG (p:Leg) (l r:Bool) : (zk p l r).length≤1:=by
 unfold zk
 split
 ·simp
 ·split<;>simp
theorem MH {E1 E2:List Leg} {how:Int} {ks:List Leg} :∀i,i≤ks.length→(xe E1 E2 how ks i).length≤i
 | 0,_=>by simp [xe]
 | i+1,h=>by
  have:=MH (E1:=E1) (E2:=E2) (how:=how) (ks:=ks) i Om
  have h1:=CG (lg ks i) (Qy (kX E1 (lg ks i)).left (kX E2 (lg ks i)).left how) (Qy (kX E1 (lg ks i)).right (kX E2 (lg ks i)).right how)
  rw [GB Om,jif]
  omega
structure TwoE (E1 E2:List Leg) :Prop where
 ok1:∀l∈E1,qN l
 ok2:∀l∈E2,qN l
 ne1:∀l∈E1,lA l≠lB l
 ne2:∀l∈E2,lA l≠lB l
 lnE:E1.length≤400
 lnF:E2.length≤400
theorem TwoE.ok {E1 E2:List Leg} (h:TwoE E1 E2) :∀l∈E1++E2,qN l:=fun l hl=> (jiv.1 hl).elim (h.ok1 l) (h.ok2 l)
theorem TwoE.ne {E1 E2:List Leg} (h:TwoE E1 E2) :∀l∈E1++E2,lA l≠lB l:=fun l hl=> (jiv.1 hl).elim (h.ne1 l) (h.ne2 l)
theorem ZB {es:List Leg} (h1:∀l∈es,qN l) (h2:∀l∈es,lA l≠lB l) {p:Leg} (h:p∈KI es) :Key es p∧∃e∈es,p=Q5 e:=by
 obtain ⟨x,hx,rfl⟩ :=jip.1 h
 rcases wZ.1 ⟨x,hx,rfl⟩ with⟨y,hy,_⟩ |⟨e,he,h⟩
 ·cases hy
 ·exact⟨⟨by rw [h];exact jcA (h1 e he),by rw [h];exact jgK (h2 e he),by rw [h];exact jeZ e⟩,e,he,h⟩
theorem wO (x1 x2:Option Addr×Nat) (E1 E2:List Leg) (how:Int) (w:World) (h1: (Sz E1 x1).P w) (h2: (Sz E2 x2).P w) (hE:TwoE E1 E2) :
  Calls Tryz.prog 111 #[.slice x1.1 E1.length x1.2, .slice x2.1 E2.length x2.2, .int .i64 how] w fun e w'=>∃v,e= .returned v∧w'.ownsRow w.heap.size 131 4 v (vn E1 E2 how).length ((vn E1 E2 how).flatMap jZ)∧Over w w':=by
 have hl1:=hE.lnE
 have hl2:=hE.lnF
 have hkl: (KI (E1++E2)).length≤800:=by have:=Sh (es:=E1++E2);rw [jif] at this;omega
 obtain ⟨ks,hks⟩ :∃ks,ks=KI (E1++E2) :=⟨_,rfl⟩
 rw [←hks] at hkl
 refine Jh (m:=68) (Tryz.func111) J J (lb J) ?_;refine S7 ?_;refine Q7 (T:=131) (s:=4) ?_;refine N7 ?_;refine Jx J J (wB J J) J (lb J) (fun b1=> ?_);refine N1 ?_;refine J4 Kg (v:=fun x=> .slice x.1 (E1++E2).length x.2) (r:=fun x=>JY 0 131 4 (E1++E2).length ((E1++E2).flatMap jZ) x) (H:=fun _=>True) J J J (lb J) (fun w1 hs=>Qh (PB (hs.cel (k:=1) J) (ke h1 hs.fin) (ke h2 hs.fin) Om)) ?_
 rintro⟨cA,cc⟩ -
 refine N1 ?_;refine J4 LT (v:=fun x=> .slice x.1 ks.length x.2) (r:=fun x=>JY 0 131 4 ks.length (ks.flatMap jZ) x) (H:=fun _=>True) J J J (lb J) (fun w1 hs=>Qh (by rw [hks];exact ST cA _ cc (E1++E2) w1 (y3 (hs.all 2 _ J).1 J) hE.ok (by rw [jif];omega))) ?_
 rintro⟨kA,kc⟩ -
 refine N4 ?_;refine JQ (X:=Nat×Option Addr×Nat) (fun x=>x.1≤ks.length) (fun x=>ks.length- x.1) (fun x=> [(7, .slice x.2.1 (xe E1 E2 how ks x.1).length x.2.2),(20, .int .i64 (x.1:Int))]) (kK [0,1,2,6,18,19]) (fun x=> [JY (Bs.N ⟨w,[]⟩) 131 4 (xe E1 E2 how ks x.1).length ((xe E1 E2 how ks x.1).flatMap jZ) x.2, .cel b1 106 [.slice x1.1 E1.length x1.2, .slice x2.1 E2.length x2.2],JY 0 131 4 (E1++E2).length ((E1++E2).flatMap jZ) (cA,cc),JY 0 131 4 ks.length (ks.flatMap jZ) (kA,kc)]) (0,none,0) (jii _) ⟨J,sz⟩ (fun _ h=>h) ?_
 intro⟨i,rA,rc⟩ hi L hL1
 refine v9 ?_;refine r9 ?_
 have hi:i≤ks.length:=hi
 have hbl:=MH (E1:=E1) (E2:=E2) (how:=how) (ks:=ks) i hi
 refine S5 ?_;refine cZ (fun c1=> ?_) (fun c1=> ?_)
 ·have hlt:i<ks.length:=Om
  obtain ⟨hkey,_⟩ :=ZB hE.ok hE.ne (p:=lg ks i) (by rw [←hks,←Uz hlt];exact jis hlt)
  have hst:=GB (E1:=E1) (E2:=E2) (how:=how) hlt
  obtain ⟨p,hp⟩ :∃p,p=lg ks i:=⟨_,rfl⟩
  rw [←hp] at hkey hst
  refine S6 ?_;refine a9 (qQ (j:=i) (fun w hs=> (hs.all 3 _ J).1) J J J Jf hlt) ?_;refine a9 (jk J J qG J (jh4 [.int .i64 p.ax, .int .i64 p.ay, .int .i64 p.bx, .int .i64 p.b_y] 0 (m:=4) (fun _=>rfl) (fun w hs=> (hs.all 3 _ J).1) (jeI hlt) Om (by rw [hp];exact Me J J J J))) ?_;refine S1 ?_;refine aL (fun b2=> ?_);refine N5 ?_;refine JS 10 ?_;refine dK 0 ?_;refine dK 1 ?_;refine dZ 2 J (jT Y0 J J (fun w1 hs=>Lg x1.1 _ x1.2 E1 p w1 (y3 (ke h1 hs.fin) J) hE.ok1 Om hkey.ok hkey.ne hkey.ord)) ?_;refine dK 3 ?_;refine dK 4 ?_;refine dZ 5 J (jT Y0 J J (fun w1 hs=>Lg x2.1 _ x2.2 E2 p w1 (y3 (ke h2 hs.fin) J) hE.ok2 Om hkey.ok hkey.ne hkey.ord)) ?_;refine FH (i:=6) (j:=7) J J Dc Dc Dc J J J J Dc Dc Dc J J QP QP Kr Kr Kr (u9 J) (fun b3 b4=> ?_);refine n9 ?_;refine qe (i:=8) J Dc Kr J ?_;refine S1 ?_;refine JO (u9 J) ?_;refine qe (i:=9) J Dc Kr J ?_;refine S1 ?_;refine JO (u9 J) ?_;refine JK Kr ?_;refine S3 ?_;refine JS 14 ?_;refine dK 0 ?_;refine dK 1 ?_;refine dK 2 ?_;refine dK 3 ?_;refine dK 4 ?_;refine dZ 5 J (jT YZ J J (fun w1 hs=>Dj (kX E1 p).left (kX E2 p).left how w1)) ?_;refine dK 6 ?_;refine dK 7 ?_;refine dK 8 ?_;refine dK 9 ?_;refine dK 10 ?_;refine dZ 11 J (jT YZ J J (fun w1 hs=>Dj (kX E1 p).right (kX E2 p).right how w1)) ?_;refine dK 12 ?_;refine dK 13 ?_;refine JK Kr ?_
  obtain ⟨lf,hlf⟩ :∃lf,lf=Qy (kX E1 p).left (kX E2 p).left how:=⟨_,rfl⟩
  obtain ⟨rf,hrf⟩ :∃rf,rf=Qy (kX E1 p).right (kX E2 p).right how:=⟨_,rfl⟩
  rw [←hlf,←hrf] at hst
  rw [←hlf,←hrf]
  refine S2 ?_;refine qt [(42, .bool (lf&& !rf))] (kK [0,1,2,6,18,19,7,20,21,22,23,9,24,25,26,27,28,29,10,11,30,31,32,33,34,35,36,37,38,39,40,41,12,13]) (fun L h_7=> ?_) ?_
  ·refine S3 ?_;refine cV 44 (fun g1=> ?_) (fun g1=> ?_)
   ·refine S7 ?_
    exact Jk h_7 ⟨vb (by rw [g1,jix]),sz⟩ (u9 J)
   ·refine S5 ?_
    exact Jk h_7 ⟨vb (by rw [g1,jiC]),sz⟩ (u9 J)
  ·refine v9 ?_;refine cZ (fun c2=> ?_) (fun c2=> ?_)
   ·refine S4 ?_;refine Jx J J (Kx J) J (lb J) (fun b5=> ?_);refine N1 ?_;refine JV (k:=0) J Jf qn Dc J Dc J J J (fun w' hs=>Qb hs (k:=7) J J) (by simp [Value.oneCell']) (by unfold maxLen;omega) Om (jih _) (fun r1=> ?_);refine N9 ?_
    exact Ji hL1 ((i+1,r1)) ((show i+1≤ks.length by omega)) (by simp only;omega) ⟨(by rw [hst,zk,if_pos c2,jif];rfl),vi Om,sz⟩ (fun _ h=>h.upto ⟨by rw [hst,zk,if_pos c2,jif,jio];rfl,sz⟩)
   ·refine qt [(52, .bool (rf&& !lf))] (kK [0,1,2,6,18,19,7,20,21,22,23,9,24,25,26,27,28,29,10,11,30,31,32,33,34,35,36,37,38,39,40,41,12,13,42]) (fun L h_9=> ?_) ?_
    ·refine S3 ?_;refine cV 54 (fun g2=> ?_) (fun g2=> ?_)
     ·refine S7 ?_
      exact Jk h_9 ⟨vb (by rw [g2,jix]),sz⟩ (u9 J)
     ·refine S5 ?_
      exact Jk h_9 ⟨vb (by rw [g2,jiC]),sz⟩ (u9 J)
    ·refine v9 ?_;refine cZ (fun c3=> ?_) (fun c3=> ?_)
     ·refine S6 ?_;refine a9 (JU J J (yD J J)) ?_;refine S1 ?_;refine Jx J J (Kx J) J (lb J) (fun b6=> ?_);refine N1 ?_;refine JV (k:=0) J Jf qn Dc J Dc J J J (fun w' hs=>Qb hs (k:=7) J J) (by simp [Value.oneCell']) (by unfold maxLen;omega) Om (jih _) (fun r2=> ?_);refine N9 ?_
      exact Ji hL1 ((i+1,r2)) ((show i+1≤ks.length by omega)) (by simp only;omega) ⟨(by rw [hst,zk,if_neg (by rw [c2];simp),if_pos c3,jif];rfl),vi Om,sz⟩ (fun _ h=>h.upto ⟨by rw [hst,zk,if_neg (by rw [c2];simp),if_pos c3,jif,jio];rfl,sz⟩)
     ·refine S8 ?_
      exact Ji hL1 ((i+1,rA,rc)) ((show i+1≤ks.length by omega)) (by simp only;omega) ⟨(by rw [hst,zk,if_neg (by rw [c2];simp),if_neg (by rw [c3];simp),jiG];rfl),vi Om,sz⟩ (fun _ h=>h.upto ⟨by rw [hst,zk,if_neg (by rw [c2];simp),if_neg (by rw [c3];simp),jiG],sz⟩)
 ·have hik:i=ks.length:=Om
  have hbe:xe E1 E2 how ks i=vn E1 E2 how:= (by rw [hik,hks];rfl)
  rw [hbe]
  refine S11 ?_;refine jM J (.tmp J) ?_
  intro w' hs
  have hr:=hs.all 0 _ rfl
  exact⟨_,rfl,vv hr.1 (fun b hb=> (hr.2.1 b hb).elim id (fun h=>by cases h)),hs.fin⟩
end Go.Proofs.YtpncbbcmoiiipaaGreat
