import Derived.Test.YtbahojdbmmjkcaaGreatPNetT
import Derived.Test.YtbahojdbmmjkcaaGreatPTrS
import Derived.Test.YtbahojdbmmjkcaaGreatPSnapG
set_option linter.unusedVariables false
set_option linter.unusedSimpArgs false
namespace Go.Proofs.YtbahojdbmmjkcaaGreat
open Go Go.RowKit
variable {E1 E2:List Leg} {w:World} {x:Option Addr×Nat} {xs:List Value}
set_option maxRecDepth 100000
set_option maxHeartbeats 4000000
def Vr (a b how:Int) :Bool:=if how=1 then(!(a==0)) || (!(b==0)) else if how=2 then(!(a==0)) && (!(b==0)) else if how=3 then(!(a==0)) && !(!(b==0)) else !((!(a==0)) == (!(b==0)))
theorem GQ (a b how:Int) (w:World) :Calls Tryz.prog 240 #[.int .i64 a, .int .i64 b, .int .i64 how] w fun e w'=>e= .returned (.bool (Vr a b how))∧Over w w':=by
 refine jT (m:=36) (Tryz.func240) J J (lb J) ?_;refine S27 ?_;refine cZ (fun c1=> ?_) (fun c1=> ?_)
 ·refine S4 ?_;refine cV 17 (fun g1=> ?_) (fun g1=> ?_)
  ·refine S7 ?_;refine jL J (.tmp J) ?_
   intro w' hs
   exact⟨Qs (by simp [Vr, *]),hs.fin⟩
  ·refine S8 ?_;refine jL J (.tmp J) ?_
   intro w' hs
   exact⟨Qs (by simp [Vr, *]),hs.fin⟩
 ·refine S5 ?_;refine cZ (fun c2=> ?_) (fun c2=> ?_)
  ·refine S4 ?_;refine cV 23 (fun g2=> ?_) (fun g2=> ?_)
   ·refine S8 ?_;refine jL J (.tmp J) ?_
    intro w' hs
    exact⟨Qs (by simp [Vr, *]),hs.fin⟩
   ·refine S7 ?_;refine jL J (.tmp J) ?_
    intro w' hs
    exact⟨Qs (by simp [Vr, *]),hs.fin⟩
  ·refine S5 ?_;refine cZ (fun c3=> ?_) (fun c3=> ?_)
   ·refine S4 ?_;refine cV 29 (fun g3=> ?_) (fun g3=> ?_)
    ·refine S10 ?_;refine jL J (.tmp J) ?_
     intro w' hs
     exact⟨Qs (by simp [Vr, *]),hs.fin⟩
    ·refine S8 ?_;refine jL J (.tmp J) ?_
     intro w' hs
     exact⟨Qs (by simp [Vr, *]),hs.fin⟩
   ·refine S7 ?_;refine a9 (FA Ob J J J) ?_;refine S3 ?_;refine jL J (.tmp J) ?_
    intro w' hs
    exact⟨Qs (by simp [Vr, *]),hs.fin⟩
theorem Ba (a b how:Int) (w:World) :Calls Tryz.prog 123 #[.int .i64 a, .int .i64 b, .int .i64 how] w fun e w'=>e= .returned (.bool (Vr a b how))∧Over w w':=by
 refine jT (m:=36) (Tryz.func123) J J (lb J) ?_;refine S24 ?_;refine cZ (fun c1=> ?_) (fun c1=> ?_)
 ·refine S4 ?_;refine cV 17 (fun g1=> ?_) (fun g1=> ?_)
  ·refine S7 ?_;refine jL J (.tmp J) ?_
   intro w' hs
   exact⟨Qs (by simp [Vr, *]),hs.fin⟩
  ·refine S8 ?_;refine jL J (.tmp J) ?_
   intro w' hs
   exact⟨Qs (by simp [Vr, *]),hs.fin⟩
 ·refine S5 ?_;refine cZ (fun c2=> ?_) (fun c2=> ?_)
  ·refine S4 ?_;refine cV 23 (fun g2=> ?_) (fun g2=> ?_)
   ·refine S8 ?_;refine jL J (.tmp J) ?_
    intro w' hs
    exact⟨Qs (by simp [Vr, *]),hs.fin⟩
   ·refine S7 ?_;refine jL J (.tmp J) ?_
    intro w' hs
    exact⟨Qs (by simp [Vr, *]),hs.fin⟩
  ·refine S5 ?_;refine cZ (fun c3=> ?_) (fun c3=> ?_)
   ·refine S4 ?_;refine cV 29 (fun g3=> ?_) (fun g3=> ?_)
    ·refine S10 ?_;refine jL J (.tmp J) ?_
     intro w' hs
     exact⟨Qs (by simp [Vr, *]),hs.fin⟩
    ·refine S8 ?_;refine jL J (.tmp J) ?_
     intro w' hs
     exact⟨Qs (by simp [Vr, *]),hs.fin⟩
   ·refine S7 ?_;refine a9 (FA Ob J J J) ?_;refine S3 ?_;refine jL J (.tmp J) ?_
    intro w' hs
    exact⟨Qs (by simp [Vr, *]),hs.fin⟩
theorem jdY {B T s m:Nat} (h: (JQ B T s m xs x).P w) :Src s (.slice x.1 m x.2) m xs w:=by
 have h:w.ownsRow B T s (.slice x.1 m x.2) m xs:=h
 refine⟨h.1,?_⟩
 rcases h.2 with⟨e,e0⟩ |⟨g,cap,cur,e,hb,hg,hcap,hmax,hsz,htk⟩
 ·left
  injection e with e1 e2 e3
  rw [e1,e3,e0]
  exact⟨rfl,rfl⟩
 ·right
  injection e with e1 e2 e3
  refine⟨⟨g,0,none⟩,x.2,by rw [e1],fun q u hu=> ?_⟩
  have hq:= (List.getElem?_eq_some_iff.1 hu).1
  rw [←htk,List.getElem?_take,if_pos (by have:=h.1;omega)] at hu
  rw [QJ,jgT,cell_of_row w g q cur T (0,0) hg]
  simpa using hu
theorem D6 (l:List Leg) :∀u∈l.flatMap jU,u.oneCell'=true:=fun u hu=>by
 obtain ⟨x,_,hx⟩ :=jh3.1 hu
 simp only [jU,jgK,jhz,or_false] at hx
 rcases hx with rfl | rfl | rfl | rfl<;>rfl
abbrev Rw (l:List Leg) (x:Option Addr×Nat) :Res:=JQ 0 96 4 l.length (l.flatMap jU) x
theorem PV (m:Nat) (w:World) (h0:0<m) (hm:m≤1099511627776) :Calls Tryz.prog 108 #[.slice none 0 0, .int .i64 (m:Int)] w fun e w'=>∃v,e= .returned v∧w'.ownsRow w.heap.size 96 4 v 0 []∧Over w w':=by
 refine jT (m:=27) (Tryz.func108) J J (lb J) ?_;refine S10 ?_;refine cZ (fun c1=> ?_) (fun c1=> ?_)
 ·omega
 ·refine S7 ?_;refine a9 (MH J J jV) ?_;refine S11 ?_;refine cZ (fun c2=> ?_) (fun c2=> ?_)
  ·refine S3 ?_;refine a9 (MH J J jV) ?_;refine a9 ((kS (h:=0) J J J jV (jgx _)).as (show sliced none 0 0 0 4= .slice none 0 0 from J)) ?_;refine S1 ?_;refine Uf 21 (.int .i64 (m:Int)) J (congrArg _ Om) ?_;refine S1 ?_;refine RM J jV Tryz.underlying3 qd Dc J J h0 (by unfold maxLen;omega) Om J Dc (fun gb gcap=> ?_);refine N2 ?_;refine a9 ((kS (h:=0) J J J jV (jgw _)).as (w6 _ _ _ _ _)) ?_;refine S8 ?_;refine jL J (.tmp J) ?_
   intro w' hs
   have hr:=hs.all 0 _ rfl
   exact⟨_,rfl,KN hr.1 (fun b hb=> (hr.2.1 b hb).elim id (fun h=>by cases h)),hs.fin⟩
  ·omega
theorem PU (w:World) :Calls Tryz.prog 108 #[.slice none 0 0, .int .i64 0] w fun e w'=>e= .returned (.slice none 0 0)∧Over w w':=by
 refine jT (m:=27) (Tryz.func108) J J (lb J) ?_;refine S10 ?_;refine cZ (fun c1=> ?_) (fun c1=> ?_)
 ·omega
 ·refine S7 ?_;refine a9 (MH J J jV) ?_;refine S11 ?_;refine cZ (fun c2=> ?_) (fun c2=> ?_)
  ·omega
  ·refine S8 ?_;refine jL J (.tmp J) ?_
   intro w' hs
   exact⟨rfl,hs.fin⟩
theorem PT (m:Nat) (w:World) (hm:m≤1099511627776) :Calls Tryz.prog 108 #[.slice none 0 0, .int .i64 (m:Int)] w fun e w'=>∃v,e= .returned v∧w'.ownsRow w.heap.size 96 4 v 0 []∧Over w w':=by
 by_cases h0:0<m
 ·exact PV m w h0 hm
 ·obtain rfl:m=0:=by omega
  exact(PU w).mono fun e w' ⟨h1,h2⟩ =>⟨_,h1,World.ownsRow_nil _ _ _ _,h2⟩
abbrev Sg:= (Option Addr×Nat)×List Leg
def sgA (ss:List Sg) (k:Nat) :Sg:=ss.getD k ((none,0),[])
def W4 (ss:List Sg) (k:Nat) :List Leg:= (ss.take k).flatMap (·.2)
theorem Bc {ss:List Sg} {k:Nat} (h:k<ss.length) :W4 ss (k+1) =W4 ss k++ (sgA ss k).2:=by
 unfold W4 sgA
 rw [jgE h,jgG]
 simp [List.getD,h]
theorem Nh {ss:List Sg} {k j:Nat} (h:k≤j) : (W4 ss k).length≤(W4 ss j).length:=by
 have e:ss.take k= (ss.take j).take k:=by rw [List.take_take,jhu h]
 unfold W4
 rw [e]
 conv=>rhs;rw [←jgI k (ss.take j)]
 rw [jgG,jgv]
 omega
theorem Ih (b o N C:Nat) (ss:List Sg) (w:World) (hN:ss.length=N) (hb:b<w.heap.size) (hc:∀k,k<N→w.cell? ⟨b,o+k,none⟩ =some (.slice (sgA ss k).1.1 (sgA ss k).2.length (sgA ss k).1.2)) (hp:∀k,k<N→(Rw (sgA ss k).2 (sgA ss k).1).P w) (hm: (W4 ss N).length≤1048577) (hN2:N≤1048577) (hN0:0<N) :
  Calls Tryz.prog 55 #[.slice (some ⟨b,o,none⟩) N C] w fun e w'=>∃v,e= .returned v∧w'.ownsRow w.heap.size 96 4 v (W4 ss N).length ((W4 ss N).flatMap jU)∧Over w w':=by
 refine jT (m:=36) (Tryz.func55) J J (lb J) ?_;refine S16 ?_;refine J9 (X:=Nat) (fun k=>k≤N) (fun k=>N- k) (fun k=> [(3, .int .i64 ((W4 ss k).length:Int)),(11, .int .i64 (k:Int))]) (kK [0,2,9,10]) 0 (jgw _) ⟨J,sz⟩ ?_
 intro k hk L hL1
 refine V5 ?_;refine cZ (fun c1=> ?_) (fun c1=> ?_)
 ·have hlt:k<N:=Om
  have hst: (W4 ss (k+1)).length= (W4 ss k).length+ (sgA ss k).2.length:= (by rw [Bc Om,jgv])
  have hle: (W4 ss (k+1)).length≤(W4 ss N).length:=Nh Om
  refine S7 ?_;refine a9 (jl J J Ym (jdK (hc k hlt) hb)) ?_;refine S15 ?_;refine cZ (fun c2=> ?_) (fun c2=> ?_)
  ·omega
  ·refine S7 ?_
   exact JY hL1 (k+1) Om Om ⟨vi Om,vi Om,sz⟩ (u9 J)
 ·have hkN:k=N:=Om
  subst hkN
  refine S9 ?_;refine JR VV (v:=fun x=> .slice x.1 0 x.2) (r:=fun x=>JQ 0 96 4 0 [] x) (H:=fun _=>True) J J J (lb J) (fun w1 hs=>qJ (PT _ w1 Om)) ?_
  rintro⟨cA,cc⟩ -
  refine N10 ?_;refine JN (X:=Nat×Option Addr×Nat) (fun x=>x.1≤k) (fun x=>k- x.1) (fun x=> [(6, .slice x.2.1 (W4 ss x.1).length x.2.2),(27, .int .i64 (x.1:Int))]) (kK [2,25,26]) (fun x=> [JQ 0 96 4 (W4 ss x.1).length ((W4 ss x.1).flatMap jU) x.2]) (0,cA,cc) (jgw _) ⟨J,sz⟩ (fun _ h=>h) ?_
  intro⟨j,rA,rc⟩ hj L hL2
  refine v9 ?_;refine r9 ?_
  have hj:j≤k:=hj
  refine S5 ?_;refine cZ (fun c3=> ?_) (fun c3=> ?_)
  ·have hlt:j<k:=Om
   have hst:W4 ss (j+1) =W4 ss j++ (sgA ss j).2:=Bc Om
   have hst2: (W4 ss (j+1)).length= (W4 ss j).length+ (sgA ss j).2.length:= (by rw [hst,jgv])
   have hle: (W4 ss (j+1)).length≤(W4 ss k).length:=Nh Om
   refine S7 ?_;refine a9 (jl J J Ym (jdK (hc j hlt) hb)) ?_;refine S6 ?_;refine JV (k:=0) J jV qd Dc J Dc J J J (fun w' hs=>jdY (Qc (hp j hlt) hs.fin)) (D6 _) (by unfold maxLen;omega) Om (jgw _) (fun r1=> ?_);refine N8 ?_
   exact j4 hL2 ((j+1,r1)) ((show j+1≤k by omega)) (by simp only;omega) ⟨(by rw [hst2];rfl),vi Om,sz⟩ (fun _ h=>h.upto ⟨by rw [hst2,hst,jgG],trivial⟩)
  ·have hjk:j=k:=Om
   subst hjk
   refine S11 ?_;refine jL J (.tmp J) ?_
   intro w' hs
   have hr:=hs.all 0 _ rfl
   exact⟨_,rfl,KN hr.1 (fun b hb=> (hr.2.1 b hb).elim id (fun h=>by cases h)),hs.fin⟩
theorem Nj {b U:Nat} {x1 x2:Option Addr×Nat} (hb:w.heap[b]? =some (.cells [.slice x1.1 E1.length x1.2, .slice x2.1 E2.length x2.2].toArray U (0,0))) (h1: (Rw E1 x1).P w) (h2: (Rw E2 x2).P w) (hm:E1.length+E2.length≤1048577) :
  Calls Tryz.prog 55 #[.slice (some ⟨b,0,none⟩) 2 2] w fun e w'=>∃v,e= .returned v∧w'.ownsRow w.heap.size 96 4 v (E1++E2).length ((E1++E2).flatMap jU)∧Over w w':=by
 have ex:W4 [(x1,E1),(x2,E2)] 2=E1++E2:=by simp [W4]
 have hcell:∀k,w.cell? ⟨b,k,none⟩ = [Value.slice x1.1 E1.length x1.2, .slice x2.1 E2.length x2.2][k]? :=fun k=>by rw [cell_of_row w b k _ U (0,0) hb];simp
 have:=Ih b 0 2 2 [(x1,E1),(x2,E2)] w rfl (JZ hb) (fun j hj=> ?_) (fun j hj=> ?_) (by rw [ex,jgv];omega) Dc Dc
 ·rw [ex] at this
  exact this
 ·rw [jgT,hcell]
  match j,hj with
  | 0,_=>rfl
  | 1,_=>rfl
 ·match j,hj with
  | 0,_=>exact h1
  | 1,_=>exact h2
def Oq (p:Leg) (l r:Bool) :List Leg:=if(l&& !r) =true then [p] else if(r&& !l) =true then [vD p] else []
def xg (E1 E2:List Leg) (how:Int) (ks:List Leg) (i:Nat) :List Leg:= (ks.take i).flatMap fun p=>Oq p (Vr (Z8 E1 p).left (Z8 E2 p).left how) (Vr (Z8 E1 p).right (Z8 E2 p).right how)
def vj (E1 E2:List Leg) (how:Int) :List Leg:=xg E1 E2 how (VF (E1++E2)) (VF (E1++E2)).length
theorem XH {how:Int} {ks:List Leg} {i:Nat} (h:i<ks.length) :xg E1 E2 how ks (i+1) =xg E1 E2 how ks i++Oq (lg ks i) (Vr (Z8 E1 (lg ks i)).left (Z8 E2 (lg ks i)).left how) (Vr (Z8 E1 (lg ks i)).right (Z8 E2 (lg ks i)).right how) :=by
 rw [xg,jgE h,jgG,VG h]
 simp [xg]
theorem Pt (p:Leg) (l r:Bool) : (Oq p l r).length≤1:=by
 unfold Oq
 split
 ·simp
 ·split<;>simp
theorem LE {E1 E2:List Leg} {how:Int} {ks:List Leg} :∀i,i≤ks.length→(xg E1 E2 how ks i).length≤i
 | 0,_=>by simp [xg]
 | i+1,h=>by
  have:=LE (E1:=E1) (E2:=E2) (how:=how) (ks:=ks) i Om
  have h1:=Pt (lg ks i) (Vr (Z8 E1 (lg ks i)).left (Z8 E2 (lg ks i)).left how) (Vr (Z8 E1 (lg ks i)).right (Z8 E2 (lg ks i)).right how)
  rw [XH Om,jgv]
  omega
structure TwoE (E1 E2:List Leg) :Prop where
 ok1:∀l∈E1,qr l
 ok2:∀l∈E2,qr l
 ne1:∀l∈E1,lA l≠lB l
 ne2:∀l∈E2,lA l≠lB l
 lnE:E1.length≤400
 lnF:E2.length≤400
theorem TwoE.ok (h:TwoE E1 E2) :∀l∈E1++E2,qr l:=fun l hl=> (jgL.1 hl).elim (h.ok1 l) (h.ok2 l)
theorem TwoE.ne (h:TwoE E1 E2) :∀l∈E1++E2,lA l≠lB l:=fun l hl=> (jgL.1 hl).elim (h.ne1 l) (h.ne2 l)
theorem xx {es:List Leg} (h1:∀l∈es,qr l) (h2:∀l∈es,lA l≠lB l) {p:Leg} (h:p∈VF es) :Key es p∧∃e∈es,p=Ky e:=by
 obtain ⟨x,hx,rfl⟩ :=jgO.1 h
 rcases Ws.1 ⟨x,hx,rfl⟩ with⟨y,hy,_⟩ |⟨e,he,h⟩
 ·cases hy
 ·exact⟨⟨by rw [h];exact jbi (h1 e he),by rw [h];exact jfd (h2 e he),by rw [h];exact jdr e⟩,e,he,h⟩
theorem VY (x1 x2:Option Addr×Nat) (E1 E2:List Leg) (how:Int) (w:World) (h1: (Rw E1 x1).P w) (h2: (Rw E2 x2).P w) (hE:TwoE E1 E2) :
  Calls Tryz.prog 61 #[.slice x1.1 E1.length x1.2, .slice x2.1 E2.length x2.2, .int .i64 how] w fun e w'=>∃v,e= .returned v∧w'.ownsRow w.heap.size 96 4 v (vj E1 E2 how).length ((vj E1 E2 how).flatMap jU)∧Over w w':=by
 have hl1:=hE.lnE
 have hl2:=hE.lnF
 have hkl: (VF (E1++E2)).length≤800:=by have:=Rj (es:=E1++E2);rw [jgv] at this;omega
 obtain ⟨ks,hks⟩ :∃ks,ks=VF (E1++E2) :=⟨_,rfl⟩
 rw [←hks] at hkl
 refine jT (m:=68) (Tryz.func61) J J (lb J) ?_;refine S7 ?_;refine kh (T:=96) (s:=4) ?_;refine N7 ?_;refine Jw J J (VL J J) J (lb J) (fun b1=> ?_);refine N1 ?_;refine JR kL (v:=fun x=> .slice x.1 (E1++E2).length x.2) (r:=fun x=>JQ 0 96 4 (E1++E2).length ((E1++E2).flatMap jU) x) (H:=fun _=>True) J J J (lb J) (fun w1 hs=>qJ (Nj (hs.cel (k:=1) J) (Qc h1 hs.fin) (Qc h2 hs.fin) Om)) ?_
 rintro⟨cA,cc⟩ -
 refine N1 ?_;refine JR HE (v:=fun x=> .slice x.1 ks.length x.2) (r:=fun x=>JQ 0 96 4 ks.length (ks.flatMap jU) x) (H:=fun _=>True) J J J (lb J) (fun w1 hs=>qJ (by rw [hks];exact RP cA _ cc (E1++E2) w1 (yb (hs.all 2 _ J).1 J) hE.ok (by rw [jgv];omega))) ?_
 rintro⟨kA,kc⟩ -
 refine N4 ?_;refine JN (X:=Nat×Option Addr×Nat) (fun x=>x.1≤ks.length) (fun x=>ks.length- x.1) (fun x=> [(7, .slice x.2.1 (xg E1 E2 how ks x.1).length x.2.2),(20, .int .i64 (x.1:Int))]) (kK [0,1,2,6,18,19]) (fun x=> [JQ (Bs.N ⟨w,[]⟩) 96 4 (xg E1 E2 how ks x.1).length ((xg E1 E2 how ks x.1).flatMap jU) x.2, .cel b1 93 [.slice x1.1 E1.length x1.2, .slice x2.1 E2.length x2.2],JQ 0 96 4 (E1++E2).length ((E1++E2).flatMap jU) (cA,cc),JQ 0 96 4 ks.length (ks.flatMap jU) (kA,kc)]) (0,none,0) (jgw _) ⟨J,sz⟩ (fun _ h=>h) ?_
 intro⟨i,rA,rc⟩ hi L hL1
 refine v9 ?_;refine r9 ?_
 have hi:i≤ks.length:=hi
 have hbl:=LE (E1:=E1) (E2:=E2) (how:=how) (ks:=ks) i hi
 refine S5 ?_;refine cZ (fun c1=> ?_) (fun c1=> ?_)
 ·have hlt:i<ks.length:=Om
  obtain ⟨hkey,_⟩ :=xx hE.ok hE.ne (p:=lg ks i) (by rw [←hks,←VG hlt];exact jgH hlt)
  have hst:=XH (E1:=E1) (E2:=E2) (how:=how) hlt
  obtain ⟨p,hp⟩ :∃p,p=lg ks i:=⟨_,rfl⟩
  rw [←hp] at hkey hst
  refine S6 ?_;refine a9 (qj (j:=i) (fun w hs=> (hs.all 3 _ J).1) J J J jV hlt) ?_;refine a9 (jk J J qm J (jgk [.int .i64 p.ax, .int .i64 p.ay, .int .i64 p.bx, .int .i64 p.b_y] 0 (m:=4) (fun _=>rfl) (fun w hs=> (hs.all 3 _ J).1) (Fb hlt) Om (by rw [hp];exact HZ J J J J))) ?_;refine S1 ?_;refine aL (fun b2=> ?_);refine N5 ?_;refine JS 10 ?_;refine dK 0 ?_;refine dK 1 ?_;refine dZ 2 J (jJ Ye J J (fun w1 hs=>GW x1.1 _ x1.2 E1 p w1 (yb (Qc h1 hs.fin) J) hE.ok1 Om hkey.ok hkey.ne hkey.ord)) ?_;refine dK 3 ?_;refine dK 4 ?_;refine dZ 5 J (jJ Ye J J (fun w1 hs=>GW x2.1 _ x2.2 E2 p w1 (yb (Qc h2 hs.fin) J) hE.ok2 Om hkey.ok hkey.ne hkey.ord)) ?_;refine DI (i:=6) (j:=7) J J Dc Dc Dc J J J J Dc Dc Dc J J Qy Qy Kr Kr Kr (u9 J) (fun b3 b4=> ?_);refine n9 ?_;refine J8 (i:=8) J Dc Kr J ?_;refine S1 ?_;refine JU (u9 J) ?_;refine J8 (i:=9) J Dc Kr J ?_;refine S1 ?_;refine JU (u9 J) ?_;refine JI Kr ?_;refine S3 ?_;refine JS 14 ?_;refine dK 0 ?_;refine dK 1 ?_;refine dK 2 ?_;refine dK 3 ?_;refine dK 4 ?_;refine dZ 5 J (jJ Yd J J (fun w1 hs=>Ba (Z8 E1 p).left (Z8 E2 p).left how w1)) ?_;refine dK 6 ?_;refine dK 7 ?_;refine dK 8 ?_;refine dK 9 ?_;refine dK 10 ?_;refine dZ 11 J (jJ Yd J J (fun w1 hs=>Ba (Z8 E1 p).right (Z8 E2 p).right how w1)) ?_;refine dK 12 ?_;refine dK 13 ?_;refine JI Kr ?_
  obtain ⟨lf,hlf⟩ :∃lf,lf=Vr (Z8 E1 p).left (Z8 E2 p).left how:=⟨_,rfl⟩
  obtain ⟨rf,hrf⟩ :∃rf,rf=Vr (Z8 E1 p).right (Z8 E2 p).right how:=⟨_,rfl⟩
  rw [←hlf,←hrf] at hst
  rw [←hlf,←hrf]
  refine S2 ?_;refine qn [(42, .bool (lf&& !rf))] (kK [0,1,2,6,18,19,7,20,21,22,23,9,24,25,26,27,28,29,10,11,30,31,32,33,34,35,36,37,38,39,40,41,12,13]) (fun L h_7=> ?_) ?_
  ·refine S3 ?_;refine cV 44 (fun g1=> ?_) (fun g1=> ?_)
   ·refine S7 ?_
    exact Jr h_7 ⟨vb (by rw [g1,jg2]),sz⟩ (u9 J)
   ·refine S5 ?_
    exact Jr h_7 ⟨vb (by rw [g1,jhd]),sz⟩ (u9 J)
  ·refine v9 ?_;refine cZ (fun c2=> ?_) (fun c2=> ?_)
   ·refine S4 ?_;refine Jw J J (kZ J) J (lb J) (fun b5=> ?_);refine N1 ?_;refine JV (k:=0) J jV qd Dc J Dc J J J (fun w' hs=>qR hs (k:=7) J J) (by simp [Value.oneCell']) (by unfold maxLen;omega) Om (jgx _) (fun r1=> ?_);refine N9 ?_
    exact j4 hL1 ((i+1,r1)) ((show i+1≤ks.length by omega)) (by simp only;omega) ⟨(by rw [hst,Oq,if_pos c2,jgv];rfl),vi Om,sz⟩ (fun _ h=>h.upto ⟨by rw [hst,Oq,if_pos c2,jgv,jgG];rfl,sz⟩)
   ·refine qn [(52, .bool (rf&& !lf))] (kK [0,1,2,6,18,19,7,20,21,22,23,9,24,25,26,27,28,29,10,11,30,31,32,33,34,35,36,37,38,39,40,41,12,13,42]) (fun L h_9=> ?_) ?_
    ·refine S3 ?_;refine cV 54 (fun g2=> ?_) (fun g2=> ?_)
     ·refine S7 ?_
      exact Jr h_9 ⟨vb (by rw [g2,jg2]),sz⟩ (u9 J)
     ·refine S5 ?_
      exact Jr h_9 ⟨vb (by rw [g2,jhd]),sz⟩ (u9 J)
    ·refine v9 ?_;refine cZ (fun c3=> ?_) (fun c3=> ?_)
     ·refine S6 ?_;refine a9 (J0 J J (UQ J J)) ?_;refine S1 ?_;refine Jw J J (kZ J) J (lb J) (fun b6=> ?_);refine N1 ?_;refine JV (k:=0) J jV qd Dc J Dc J J J (fun w' hs=>qR hs (k:=7) J J) (by simp [Value.oneCell']) (by unfold maxLen;omega) Om (jgx _) (fun r2=> ?_);refine N9 ?_
      exact j4 hL1 ((i+1,r2)) ((show i+1≤ks.length by omega)) (by simp only;omega) ⟨(by rw [hst,Oq,if_neg (by rw [c2];simp),if_pos c3,jgv];rfl),vi Om,sz⟩ (fun _ h=>h.upto ⟨by rw [hst,Oq,if_neg (by rw [c2];simp),if_pos c3,jgv,jgG];rfl,sz⟩)
     ·refine S8 ?_
      exact j4 hL1 ((i+1,rA,rc)) ((show i+1≤ks.length by omega)) (by simp only;omega) ⟨(by rw [hst,Oq,if_neg (by rw [c2];simp),if_neg (by rw [c3];simp),jgW];rfl),vi Om,sz⟩ (fun _ h=>h.upto ⟨by rw [hst,Oq,if_neg (by rw [c2];simp),if_neg (by rw [c3];simp),jgW],sz⟩)
 ·have hik:i=ks.length:=Om
  have hbe:xg E1 E2 how ks i=vj E1 E2 how:= (by rw [hik,hks];rfl)
  rw [hbe]
  refine S11 ?_;refine jL J (.tmp J) ?_
  intro w' hs
  have hr:=hs.all 0 _ rfl
  exact⟨_,rfl,KN hr.1 (fun b hb=> (hr.2.1 b hb).elim id (fun h=>by cases h)),hs.fin⟩
end Go.Proofs.YtbahojdbmmjkcaaGreat
