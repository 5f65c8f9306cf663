import Derived.Test.YtbahojdbmmjkcaaGreatSNetT
import Derived.Test.YtbahojdbmmjkcaaGreatSTrS
import Derived.Test.YtbahojdbmmjkcaaGreatSSnapG
set_option linter.unusedVariables false
set_option linter.unusedSimpArgs false
namespace Go.Proofs.YtbahojdbmmjkcaaGreat
open Go Go.RowKit
variable {E1 E2:List Leg} {w:World} {x:Option Addr×Nat} {xs:List Value}
set_option maxRecDepth 100000
set_option maxHeartbeats 4000000
def VE (a b how:Int) :Bool:=if how=1 then(!(a==0)) || (!(b==0)) else if how=2 then(!(a==0)) && (!(b==0)) else if how=3 then(!(a==0)) && !(!(b==0)) else !((!(a==0)) == (!(b==0)))
theorem HS (a b how:Int) (w:World) :Calls Tryz.prog 240 #[.int .i64 a, .int .i64 b, .int .i64 how] w fun e w'=>e= .returned (.bool (VE a b how))∧Over w w':=by
 refine jK (m:=36) (Tryz.func240) J J (lb J) ?_;refine S27 ?_;refine cZ (fun c1=> ?_) (fun c1=> ?_)
 ·refine S4 ?_;refine cV 17 (fun g1=> ?_) (fun g1=> ?_)
  ·refine S7 ?_;refine jJ J (.tmp J) ?_
   intro w' hs
   exact⟨QH (by simp [VE, *]),hs.fin⟩
  ·refine S8 ?_;refine jJ J (.tmp J) ?_
   intro w' hs
   exact⟨QH (by simp [VE, *]),hs.fin⟩
 ·refine S5 ?_;refine cZ (fun c2=> ?_) (fun c2=> ?_)
  ·refine S4 ?_;refine cV 23 (fun g2=> ?_) (fun g2=> ?_)
   ·refine S8 ?_;refine jJ J (.tmp J) ?_
    intro w' hs
    exact⟨QH (by simp [VE, *]),hs.fin⟩
   ·refine S7 ?_;refine jJ J (.tmp J) ?_
    intro w' hs
    exact⟨QH (by simp [VE, *]),hs.fin⟩
  ·refine S5 ?_;refine cZ (fun c3=> ?_) (fun c3=> ?_)
   ·refine S4 ?_;refine cV 29 (fun g3=> ?_) (fun g3=> ?_)
    ·refine S10 ?_;refine jJ J (.tmp J) ?_
     intro w' hs
     exact⟨QH (by simp [VE, *]),hs.fin⟩
    ·refine S8 ?_;refine jJ J (.tmp J) ?_
     intro w' hs
     exact⟨QH (by simp [VE, *]),hs.fin⟩
   ·refine S7 ?_;refine a9 (IV Bw J J J) ?_;refine S3 ?_;refine jJ J (.tmp J) ?_
    intro w' hs
    exact⟨QH (by simp [VE, *]),hs.fin⟩
theorem DD (a b how:Int) (w:World) :Calls Tryz.prog 123 #[.int .i64 a, .int .i64 b, .int .i64 how] w fun e w'=>e= .returned (.bool (VE a b how))∧Over w w':=by
 refine jK (m:=36) (Tryz.func123) J J (lb J) ?_;refine S24 ?_;refine cZ (fun c1=> ?_) (fun c1=> ?_)
 ·refine S4 ?_;refine cV 17 (fun g1=> ?_) (fun g1=> ?_)
  ·refine S7 ?_;refine jJ J (.tmp J) ?_
   intro w' hs
   exact⟨QH (by simp [VE, *]),hs.fin⟩
  ·refine S8 ?_;refine jJ J (.tmp J) ?_
   intro w' hs
   exact⟨QH (by simp [VE, *]),hs.fin⟩
 ·refine S5 ?_;refine cZ (fun c2=> ?_) (fun c2=> ?_)
  ·refine S4 ?_;refine cV 23 (fun g2=> ?_) (fun g2=> ?_)
   ·refine S8 ?_;refine jJ J (.tmp J) ?_
    intro w' hs
    exact⟨QH (by simp [VE, *]),hs.fin⟩
   ·refine S7 ?_;refine jJ J (.tmp J) ?_
    intro w' hs
    exact⟨QH (by simp [VE, *]),hs.fin⟩
  ·refine S5 ?_;refine cZ (fun c3=> ?_) (fun c3=> ?_)
   ·refine S4 ?_;refine cV 29 (fun g3=> ?_) (fun g3=> ?_)
    ·refine S10 ?_;refine jJ J (.tmp J) ?_
     intro w' hs
     exact⟨QH (by simp [VE, *]),hs.fin⟩
    ·refine S8 ?_;refine jJ J (.tmp J) ?_
     intro w' hs
     exact⟨QH (by simp [VE, *]),hs.fin⟩
   ·refine S7 ?_;refine a9 (IV Bw J J J) ?_;refine S3 ?_;refine jJ J (.tmp J) ?_
    intro w' hs
    exact⟨QH (by simp [VE, *]),hs.fin⟩
theorem jfm {B T s m:Nat} (h: (JS B T s m xs x).P w) :Src s (.slice x.1 m x.2) m xs w:=by
 have h:w.ownsRow B T s (.slice x.1 m x.2) m xs:=h
 refine⟨h.1,?_⟩
 rcases h.2 with⟨e,e0⟩ |⟨g,cap,cur,e,hb,hg,hcap,hmax,hsz,htk⟩
 ·left
  injection e with e1 e2 e3
  rw [e1,e3,e0]
  exact⟨rfl,rfl⟩
 ·right
  injection e with e1 e2 e3
  refine⟨⟨g,0,none⟩,x.2,by rw [e1],fun q u hu=> ?_⟩
  have hq:= (List.getElem?_eq_some_iff.1 hu).1
  rw [←htk,List.getElem?_take,if_pos (by have:=h.1;omega)] at hu
  rw [Q1,jiB,cell_of_row w g q cur T (0,0) hg]
  simpa using hu
theorem It (l:List Leg) :∀u∈l.flatMap Je,u.oneCell'=true:=fun u hu=>by
 obtain ⟨x,_,hx⟩ :=jjI.1 hu
 simp only [Je,jis,ji3,or_false] at hx
 rcases hx with rfl | rfl | rfl | rfl<;>rfl
abbrev Ta (l:List Leg) (x:Option Addr×Nat) :Res:=JS 0 96 4 l.length (l.flatMap Je) x
theorem EG (m:Nat) (w:World) (h0:0<m) (hm:m≤1099511627776) :Calls Tryz.prog 108 #[.slice none 0 0, .int .i64 (m:Int)] w fun e w'=>∃v,e= .returned v∧w'.ownsRow w.heap.size 96 4 v 0 []∧Over w w':=by
 refine jK (m:=27) (Tryz.func108) J J (lb J) ?_;refine S10 ?_;refine cZ (fun c1=> ?_) (fun c1=> ?_)
 ·omega
 ·refine S7 ?_;refine a9 (OV J J Jf) ?_;refine S11 ?_;refine cZ (fun c2=> ?_) (fun c2=> ?_)
  ·refine S3 ?_;refine a9 (OV J J Jf) ?_;refine a9 ((QS (h:=0) J J J Jf (jif _)).as (show sliced none 0 0 0 4= .slice none 0 0 from J)) ?_;refine S1 ?_;refine uE 21 (.int .i64 (m:Int)) J (congrArg _ Om) ?_;refine S1 ?_;refine Tt J Jf Tryz.underlying3 qg Dc J J h0 (by unfold maxLen;omega) Om J Dc (fun gb gcap=> ?_);refine N2 ?_;refine a9 ((QS (h:=0) J J J Jf (jie _)).as (vf _ _ _ _ _)) ?_;refine S8 ?_;refine jJ J (.tmp J) ?_
   intro w' hs
   have hr:=hs.all 0 _ rfl
   exact⟨_,rfl,Q5 hr.1 (fun b hb=> (hr.2.1 b hb).elim id (fun h=>by cases h)),hs.fin⟩
  ·omega
theorem EF (w:World) :Calls Tryz.prog 108 #[.slice none 0 0, .int .i64 0] w fun e w'=>e= .returned (.slice none 0 0)∧Over w w':=by
 refine jK (m:=27) (Tryz.func108) J J (lb J) ?_;refine S10 ?_;refine cZ (fun c1=> ?_) (fun c1=> ?_)
 ·omega
 ·refine S7 ?_;refine a9 (OV J J Jf) ?_;refine S11 ?_;refine cZ (fun c2=> ?_) (fun c2=> ?_)
  ·omega
  ·refine S8 ?_;refine jJ J (.tmp J) ?_
   intro w' hs
   exact⟨rfl,hs.fin⟩
theorem EE (m:Nat) (w:World) (hm:m≤1099511627776) :Calls Tryz.prog 108 #[.slice none 0 0, .int .i64 (m:Int)] w fun e w'=>∃v,e= .returned v∧w'.ownsRow w.heap.size 96 4 v 0 []∧Over w w':=by
 by_cases h0:0<m
 ·exact EG m w h0 hm
 ·obtain rfl:m=0:=by omega
  exact(EF w).mono fun e w' ⟨h1,h2⟩ =>⟨_,h1,World.ownsRow_nil _ _ _ _,h2⟩
abbrev Sg:= (Option Addr×Nat)×List Leg
def sgA (ss:List Sg) (k:Nat) :Sg:=ss.getD k ((none,0),[])
def un (ss:List Sg) (k:Nat) :List Leg:= (ss.take k).flatMap (·.2)
theorem DF {ss:List Sg} {k:Nat} (h:k<ss.length) :un ss (k+1) =un ss k++ (sgA ss k).2:=by
 unfold un sgA
 rw [jik h,jii]
 simp [List.getD,h]
theorem Ca {ss:List Sg} {k j:Nat} (h:k≤j) : (un ss k).length≤(un ss j).length:=by
 have e:ss.take k= (ss.take j).take k:=by rw [List.take_take,jiZ h]
 unfold un
 rw [e]
 conv=>rhs;rw [←jiq k (ss.take j)]
 rw [jii,jid]
 omega
theorem RC (b o N C:Nat) (ss:List Sg) (w:World) (hN:ss.length=N) (hb:b<w.heap.size) (hc:∀k,k<N→w.cell? ⟨b,o+k,none⟩ =some (.slice (sgA ss k).1.1 (sgA ss k).2.length (sgA ss k).1.2)) (hp:∀k,k<N→(Ta (sgA ss k).2 (sgA ss k).1).P w) (hm: (un ss N).length≤1048577) (hN2:N≤1048577) (hN0:0<N) :
  Calls Tryz.prog 55 #[.slice (some ⟨b,o,none⟩) N C] w fun e w'=>∃v,e= .returned v∧w'.ownsRow w.heap.size 96 4 v (un ss N).length ((un ss N).flatMap Je)∧Over w w':=by
 refine jK (m:=36) (Tryz.func55) J J (lb J) ?_;refine S16 ?_;refine qj (X:=Nat) (fun k=>k≤N) (fun k=>N- k) (fun k=> [(3, .int .i64 ((un ss k).length:Int)),(11, .int .i64 (k:Int))]) (kK [0,2,9,10]) 0 (jie _) ⟨J,sz⟩ ?_
 intro k hk L hL1
 refine V5 ?_;refine cZ (fun c1=> ?_) (fun c1=> ?_)
 ·have hlt:k<N:=Om
  have hst: (un ss (k+1)).length= (un ss k).length+ (sgA ss k).2.length:= (by rw [DF Om,jid])
  have hle: (un ss (k+1)).length≤(un ss N).length:=Ca Om
  refine S7 ?_;refine a9 (jq J J YH (jfb (hc k hlt) hb)) ?_;refine S15 ?_;refine cZ (fun c2=> ?_) (fun c2=> ?_)
  ·omega
  ·refine S7 ?_
   exact qa hL1 (k+1) Om Om ⟨vi Om,vi Om,sz⟩ (u9 J)
 ·have hkN:k=N:=Om
  subst hkN
  refine S9 ?_;refine JQ wd (v:=fun x=> .slice x.1 0 x.2) (r:=fun x=>JS 0 96 4 0 [] x) (H:=fun _=>True) J J J (lb J) (fun w1 hs=>qI (EE _ w1 Om)) ?_
  rintro⟨cA,cc⟩ -
  refine N10 ?_;refine JE (X:=Nat×Option Addr×Nat) (fun x=>x.1≤k) (fun x=>k- x.1) (fun x=> [(6, .slice x.2.1 (un ss x.1).length x.2.2),(27, .int .i64 (x.1:Int))]) (kK [2,25,26]) (fun x=> [JS 0 96 4 (un ss x.1).length ((un ss x.1).flatMap Je) x.2]) (0,cA,cc) (jie _) ⟨J,sz⟩ (fun _ h=>h) ?_
  intro⟨j,rA,rc⟩ hj L hL2
  refine v9 ?_;refine r9 ?_
  have hj:j≤k:=hj
  refine S5 ?_;refine cZ (fun c3=> ?_) (fun c3=> ?_)
  ·have hlt:j<k:=Om
   have hst:un ss (j+1) =un ss j++ (sgA ss j).2:=DF Om
   have hst2: (un ss (j+1)).length= (un ss j).length+ (sgA ss j).2.length:= (by rw [hst,jid])
   have hle: (un ss (j+1)).length≤(un ss k).length:=Ca Om
   refine S7 ?_;refine a9 (jq J J YH (jfb (hc j hlt) hb)) ?_;refine S6 ?_;refine JK (k:=0) J Jf qg Dc J Dc J J J (fun w' hs=>jfm (Qn (hp j hlt) hs.fin)) (It _) (by unfold maxLen;omega) Om (jie _) (fun r1=> ?_);refine N8 ?_
   exact Jd hL2 ((j+1,r1)) ((show j+1≤k by omega)) (by simp only;omega) ⟨(by rw [hst2];rfl),vi Om,sz⟩ (fun _ h=>h.upto ⟨by rw [hst2,hst,jii],trivial⟩)
  ·have hjk:j=k:=Om
   subst hjk
   refine S11 ?_;refine jJ J (.tmp J) ?_
   intro w' hs
   have hr:=hs.all 0 _ rfl
   exact⟨_,rfl,Q5 hr.1 (fun b hb=> (hr.2.1 b hb).elim id (fun h=>by cases h)),hs.fin⟩
theorem Cc {b U:Nat} {x1 x2:Option Addr×Nat} (hb:w.heap[b]? =some (.cells [.slice x1.1 E1.length x1.2, .slice x2.1 E2.length x2.2].toArray U (0,0))) (h1: (Ta E1 x1).P w) (h2: (Ta E2 x2).P w) (hm:E1.length+E2.length≤1048577) :
  Calls Tryz.prog 55 #[.slice (some ⟨b,0,none⟩) 2 2] w fun e w'=>∃v,e= .returned v∧w'.ownsRow w.heap.size 96 4 v (E1++E2).length ((E1++E2).flatMap Je)∧Over w w':=by
 have ex:un [(x1,E1),(x2,E2)] 2=E1++E2:=by simp [un]
 have hcell:∀k,w.cell? ⟨b,k,none⟩ = [Value.slice x1.1 E1.length x1.2, .slice x2.1 E2.length x2.2][k]? :=fun k=>by rw [cell_of_row w b k _ U (0,0) hb];simp
 have:=RC b 0 2 2 [(x1,E1),(x2,E2)] w rfl (J4 hb) (fun j hj=> ?_) (fun j hj=> ?_) (by rw [ex,jid];omega) Dc Dc
 ·rw [ex] at this
  exact this
 ·rw [jiB,hcell]
  match j,hj with
  | 0,_=>rfl
  | 1,_=>rfl
 ·match j,hj with
  | 0,_=>exact h1
  | 1,_=>exact h2
def BL (p:Leg) (l r:Bool) :List Leg:=if(l&& !r) =true then [p] else if(r&& !l) =true then [vW p] else []
def xU (E1 E2:List Leg) (how:Int) (ks:List Leg) (i:Nat) :List Leg:= (ks.take i).flatMap fun p=>BL p (VE (xL E1 p).left (xL E2 p).left how) (VE (xL E1 p).right (xL E2 p).right how)
def vD (E1 E2:List Leg) (how:Int) :List Leg:=xU E1 E2 how (VQ (E1++E2)) (VQ (E1++E2)).length
theorem Gh {how:Int} {ks:List Leg} {i:Nat} (h:i<ks.length) :xU E1 E2 how ks (i+1) =xU E1 E2 how ks i++BL (lg ks i) (VE (xL E1 (lg ks i)).left (xL E2 (lg ks i)).left how) (VE (xL E1 (lg ks i)).right (xL E2 (lg ks i)).right how) :=by
 rw [xU,jik h,jii,Uf h]
 simp [xU]
theorem Ec (p:Leg) (l r:Bool) : (BL p l r).length≤1:=by
 unfold BL
 split
 ·simp
 ·split<;>simp
theorem Mx {E1 E2:List Leg} {how:Int} {ks:List Leg} :∀i,i≤ks.length→(xU E1 E2 how ks i).length≤i
 | 0,_=>by simp [xU]
 | i+1,h=>by
  have:=Mx (E1:=E1) (E2:=E2) (how:=how) (ks:=ks) i Om
  have h1:=Ec (lg ks i) (VE (xL E1 (lg ks i)).left (xL E2 (lg ks i)).left how) (VE (xL E1 (lg ks i)).right (xL E2 (lg ks i)).right how)
  rw [Gh Om,jid]
  omega
structure TwoE (E1 E2:List Leg) :Prop where
 ok1:∀l∈E1,qU l
 ok2:∀l∈E2,qU l
 ne1:∀l∈E1,lA l≠lB l
 ne2:∀l∈E2,lA l≠lB l
 lnE:E1.length≤400
 lnF:E2.length≤400
theorem TwoE.ok (h:TwoE E1 E2) :∀l∈E1++E2,qU l:=fun l hl=> (jit.1 hl).elim (h.ok1 l) (h.ok2 l)
theorem TwoE.ne (h:TwoE E1 E2) :∀l∈E1++E2,lA l≠lB l:=fun l hl=> (jit.1 hl).elim (h.ne1 l) (h.ne2 l)
theorem Xf {es:List Leg} (h1:∀l∈es,qU l) (h2:∀l∈es,lA l≠lB l) {p:Leg} (h:p∈VQ es) :Key es p∧∃e∈es,p=KR e:=by
 obtain ⟨x,hx,rfl⟩ :=jiD.1 h
 rcases WP.1 ⟨x,hx,rfl⟩ with⟨y,hy,_⟩ |⟨e,he,h⟩
 ·cases hy
 ·exact⟨⟨by rw [h];exact jcP (h1 e he),by rw [h];exact jgH (h2 e he),by rw [h];exact jeX e⟩,e,he,h⟩
theorem wj (x1 x2:Option Addr×Nat) (E1 E2:List Leg) (how:Int) (w:World) (h1: (Ta E1 x1).P w) (h2: (Ta E2 x2).P w) (hE:TwoE E1 E2) :
  Calls Tryz.prog 61 #[.slice x1.1 E1.length x1.2, .slice x2.1 E2.length x2.2, .int .i64 how] w fun e w'=>∃v,e= .returned v∧w'.ownsRow w.heap.size 96 4 v (vD E1 E2 how).length ((vD E1 E2 how).flatMap Je)∧Over w w':=by
 have hl1:=hE.lnE
 have hl2:=hE.lnF
 have hkl: (VQ (E1++E2)).length≤800:=by have:=SO (es:=E1++E2);rw [jid] at this;omega
 obtain ⟨ks,hks⟩ :∃ks,ks=VQ (E1++E2) :=⟨_,rfl⟩
 rw [←hks] at hkl
 refine jK (m:=68) (Tryz.func61) J J (lb J) ?_;refine S7 ?_;refine Q7 (T:=96) (s:=4) ?_;refine N7 ?_;refine jX J J (VX J J) J (lb J) (fun b1=> ?_);refine N1 ?_;refine JQ Kl (v:=fun x=> .slice x.1 (E1++E2).length x.2) (r:=fun x=>JS 0 96 4 (E1++E2).length ((E1++E2).flatMap Je) x) (H:=fun _=>True) J J J (lb J) (fun w1 hs=>qI (Cc (hs.cel (k:=1) J) (Qn h1 hs.fin) (Qn h2 hs.fin) Om)) ?_
 rintro⟨cA,cc⟩ -
 refine N1 ?_;refine JQ LD (v:=fun x=> .slice x.1 ks.length x.2) (r:=fun x=>JS 0 96 4 ks.length (ks.flatMap Je) x) (H:=fun _=>True) J J J (lb J) (fun w1 hs=>qI (by rw [hks];exact Tw cA _ cc (E1++E2) w1 (yB (hs.all 2 _ J).1 J) hE.ok (by rw [jid];omega))) ?_
 rintro⟨kA,kc⟩ -
 refine N4 ?_;refine JE (X:=Nat×Option Addr×Nat) (fun x=>x.1≤ks.length) (fun x=>ks.length- x.1) (fun x=> [(7, .slice x.2.1 (xU E1 E2 how ks x.1).length x.2.2),(20, .int .i64 (x.1:Int))]) (kK [0,1,2,6,18,19]) (fun x=> [JS (Bs.N ⟨w,[]⟩) 96 4 (xU E1 E2 how ks x.1).length ((xU E1 E2 how ks x.1).flatMap Je) x.2, .cel b1 93 [.slice x1.1 E1.length x1.2, .slice x2.1 E2.length x2.2],JS 0 96 4 (E1++E2).length ((E1++E2).flatMap Je) (cA,cc),JS 0 96 4 ks.length (ks.flatMap Je) (kA,kc)]) (0,none,0) (jie _) ⟨J,sz⟩ (fun _ h=>h) ?_
 intro⟨i,rA,rc⟩ hi L hL1
 refine v9 ?_;refine r9 ?_
 have hi:i≤ks.length:=hi
 have hbl:=Mx (E1:=E1) (E2:=E2) (how:=how) (ks:=ks) i hi
 refine S5 ?_;refine cZ (fun c1=> ?_) (fun c1=> ?_)
 ·have hlt:i<ks.length:=Om
  obtain ⟨hkey,_⟩ :=Xf hE.ok hE.ne (p:=lg ks i) (by rw [←hks,←Uf hlt];exact jir hlt)
  have hst:=Gh (E1:=E1) (E2:=E2) (how:=how) hlt
  obtain ⟨p,hp⟩ :∃p,p=lg ks i:=⟨_,rfl⟩
  rw [←hp] at hkey hst
  refine S6 ?_;refine a9 (qM (j:=i) (fun w hs=> (hs.all 3 _ J).1) J J J Jf hlt) ?_;refine a9 (jk J J qx J (jh0 [.int .i64 p.ax, .int .i64 p.ay, .int .i64 p.bx, .int .i64 p.b_y] 0 (m:=4) (fun _=>rfl) (fun w hs=> (hs.all 3 _ J).1) (jeG hlt) Om (by rw [hp];exact LV J J J J))) ?_;refine S1 ?_;refine aL (fun b2=> ?_);refine N5 ?_;refine JH 10 ?_;refine dK 0 ?_;refine dK 1 ?_;refine dZ 2 J (jG Yx J J (fun w1 hs=>HZ x1.1 _ x1.2 E1 p w1 (yB (Qn h1 hs.fin) J) hE.ok1 Om hkey.ok hkey.ne hkey.ord)) ?_;refine dK 3 ?_;refine dK 4 ?_;refine dZ 5 J (jG Yx J J (fun w1 hs=>HZ x2.1 _ x2.2 E2 p w1 (yB (Qn h2 hs.fin) J) hE.ok2 Om hkey.ok hkey.ne hkey.ord)) ?_;refine F3 (i:=6) (j:=7) J J Dc Dc Dc J J J J Dc Dc Dc J J QT QT Kr Kr Kr (u9 J) (fun b3 b4=> ?_);refine n9 ?_;refine qd (i:=8) J Dc Kr J ?_;refine S1 ?_;refine JU (u9 J) ?_;refine qd (i:=9) J Dc Kr J ?_;refine S1 ?_;refine JU (u9 J) ?_;refine JB Kr ?_;refine S3 ?_;refine JH 14 ?_;refine dK 0 ?_;refine dK 1 ?_;refine dK 2 ?_;refine dK 3 ?_;refine dK 4 ?_;refine dZ 5 J (jG Yw J J (fun w1 hs=>DD (xL E1 p).left (xL E2 p).left how w1)) ?_;refine dK 6 ?_;refine dK 7 ?_;refine dK 8 ?_;refine dK 9 ?_;refine dK 10 ?_;refine dZ 11 J (jG Yw J J (fun w1 hs=>DD (xL E1 p).right (xL E2 p).right how w1)) ?_;refine dK 12 ?_;refine dK 13 ?_;refine JB Kr ?_
  obtain ⟨lf,hlf⟩ :∃lf,lf=VE (xL E1 p).left (xL E2 p).left how:=⟨_,rfl⟩
  obtain ⟨rf,hrf⟩ :∃rf,rf=VE (xL E1 p).right (xL E2 p).right how:=⟨_,rfl⟩
  rw [←hlf,←hrf] at hst
  rw [←hlf,←hrf]
  refine S2 ?_;refine qr [(42, .bool (lf&& !rf))] (kK [0,1,2,6,18,19,7,20,21,22,23,9,24,25,26,27,28,29,10,11,30,31,32,33,34,35,36,37,38,39,40,41,12,13]) (fun L h_7=> ?_) ?_
  ·refine S3 ?_;refine cV 44 (fun g1=> ?_) (fun g1=> ?_)
   ·refine S7 ?_
    exact Js h_7 ⟨vb (by rw [g1,jiJ]),sz⟩ (u9 J)
   ·refine S5 ?_
    exact Js h_7 ⟨vb (by rw [g1,jiS]),sz⟩ (u9 J)
  ·refine v9 ?_;refine cZ (fun c2=> ?_) (fun c2=> ?_)
   ·refine S4 ?_;refine jX J J (Qy J) J (lb J) (fun b5=> ?_);refine N1 ?_;refine JK (k:=0) J Jf qg Dc J Dc J J J (fun w' hs=>qD hs (k:=7) J J) (by simp [Value.oneCell']) (by unfold maxLen;omega) Om (jif _) (fun r1=> ?_);refine N9 ?_
    exact Jd hL1 ((i+1,r1)) ((show i+1≤ks.length by omega)) (by simp only;omega) ⟨(by rw [hst,BL,if_pos c2,jid];rfl),vi Om,sz⟩ (fun _ h=>h.upto ⟨by rw [hst,BL,if_pos c2,jid,jii];rfl,sz⟩)
   ·refine qr [(52, .bool (rf&& !lf))] (kK [0,1,2,6,18,19,7,20,21,22,23,9,24,25,26,27,28,29,10,11,30,31,32,33,34,35,36,37,38,39,40,41,12,13,42]) (fun L h_9=> ?_) ?_
    ·refine S3 ?_;refine cV 54 (fun g2=> ?_) (fun g2=> ?_)
     ·refine S7 ?_
      exact Js h_9 ⟨vb (by rw [g2,jiJ]),sz⟩ (u9 J)
     ·refine S5 ?_
      exact Js h_9 ⟨vb (by rw [g2,jiS]),sz⟩ (u9 J)
    ·refine v9 ?_;refine cZ (fun c3=> ?_) (fun c3=> ?_)
     ·refine S6 ?_;refine a9 (JF J J (vh J J)) ?_;refine S1 ?_;refine jX J J (Qy J) J (lb J) (fun b6=> ?_);refine N1 ?_;refine JK (k:=0) J Jf qg Dc J Dc J J J (fun w' hs=>qD hs (k:=7) J J) (by simp [Value.oneCell']) (by unfold maxLen;omega) Om (jif _) (fun r2=> ?_);refine N9 ?_
      exact Jd hL1 ((i+1,r2)) ((show i+1≤ks.length by omega)) (by simp only;omega) ⟨(by rw [hst,BL,if_neg (by rw [c2];simp),if_pos c3,jid];rfl),vi Om,sz⟩ (fun _ h=>h.upto ⟨by rw [hst,BL,if_neg (by rw [c2];simp),if_pos c3,jid,jii];rfl,sz⟩)
     ·refine S8 ?_
      exact Jd hL1 ((i+1,rA,rc)) ((show i+1≤ks.length by omega)) (by simp only;omega) ⟨(by rw [hst,BL,if_neg (by rw [c2];simp),if_neg (by rw [c3];simp),jiC];rfl),vi Om,sz⟩ (fun _ h=>h.upto ⟨by rw [hst,BL,if_neg (by rw [c2];simp),if_neg (by rw [c3];simp),jiC],sz⟩)
 ·have hik:i=ks.length:=Om
  have hbe:xU E1 E2 how ks i=vD E1 E2 how:= (by rw [hik,hks];rfl)
  rw [hbe]
  refine S11 ?_;refine jJ J (.tmp J) ?_
  intro w' hs
  have hr:=hs.all 0 _ rfl
  exact⟨_,rfl,Q5 hr.1 (fun b hb=> (hr.2.1 b hb).elim id (fun h=>by cases h)),hs.fin⟩
end Go.Proofs.YtbahojdbmmjkcaaGreat
