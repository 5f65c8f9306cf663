import Derived.Test.YtkagkgjjfdkoaaaGreatMLegSort
import Derived.Test.YtkagkgjjfdkoaaaGreatMNetQ
import Derived.Test.YtkagkgjjfdkoaaaGreatMCmp
set_option linter.unusedVariables false
set_option linter.unusedSimpArgs false
namespace Go.Proofs.YtkagkgjjfdkoaaaGreat
open Go Go.RowKit
set_option maxRecDepth 100000
set_option maxHeartbeats 4000000
theorem FW (p q:Pn) :0<VQ p q↔wq q p:=by
 have h1:=W9 (p.1- q.1)
 have h2:=W9 (p.2- q.2)
 unfold VQ wq
 split<;>omega
theorem FX (p q:Pn) (hp:zJ p) (hq:zJ q) (W:World) :Calls Tryz.prog 76 #[pV p,pV q] W fun e w'=>e= .returned (.int .i64 (VQ p q))∧Over W w':=
 (u7 p q hp hq W).mono fun e w' ⟨h,q',os',hw⟩ =>⟨h,xY hw⟩
def Ow (ls:List Leg) (k:Nat) :List Leg:= (ls.take k).map Kz
theorem Bl {ls:List Leg} {k:Nat} (h:k<ls.length) :Ow ls (k+1) =Ow ls k++ [Kz (lg ls k)] :=by
 rw [Ow,jeS h,yf h]
 simp [Ow]
theorem ER {ls:List Leg} {k:Nat} (h:k≤ls.length) : (Ow ls k).length=k:=by
 rw [Ow,jeX,jeV]
 omega
theorem jbT {l:Leg} (h:0<VQ (lA l) (lB l)) :Kz l=⟨l.bx,l.b_y,l.ax,l.ay⟩ :=by rw [Kz,if_pos ((FW _ _).1 h)];rfl
theorem jds {l:Leg} (h:VQ (lA l) (lB l)≤0) :Kz l=l:=by rw [Kz,if_neg fun k=>by have:= (FW _ _).2 k;omega]
def VK (es:List Leg) :List Leg:= (qW false es []).map (·.e)
theorem En {es m:List Leg} (hp:m.Perm (es.map Kz)) (hr:NG m) :QA m=VK es:=
 (EO rfl hr fun q=>by rw [hp.mem_iff,je7];constructor<;> (rintro⟨e,h1,h2⟩;exact⟨e,h1,h2.symm⟩)).symm
theorem PV {B g c n:Nat} {xs:List Leg} {w:World} (h: (JP B 56 4 n (xs.flatMap jZ) (some ⟨g,0,none⟩,c)).P w) (hl:xs.length=n) (hx:∀p∈xs,qO p) (hn:n≤1048576) (h0:0<n) :
  Calls Tryz.prog 128 #[.slice (some ⟨g,0,none⟩) n c, .func (.func 129) #[] #[]] w fun e w'=>∃x: {ys:List Leg//ys.Perm xs∧NG ys},e= .returned (.tuple #[])∧Wrs (JP B 56 4 n (xs.flatMap jZ) (some ⟨g,0,none⟩,c)).F w w'∧(JP 0 56 4 n (x.1.flatMap jZ) (some ⟨g,0,none⟩,c)).P w'∧(∀b,(JP 0 56 4 n (x.1.flatMap jZ) (some ⟨g,0,none⟩,c)).F b→(JP B 56 4 n (xs.flatMap jZ) (some ⟨g,0,none⟩,c)).F b∨w.heap.size≤b)∧(JP 0 56 4 n (x.1.flatMap jZ) (some ⟨g,0,none⟩,c)).B=0:=by
 refine(PW h hl hx hn h0).mono ?_
 rintro e w' ⟨rfl,ys,hp,hr,hw,ho⟩
 exact⟨⟨ys,hp,hr⟩,rfl,hw.mono fun b hb=>by subst hb;rfl,ho,fun b hb=> .inl hb,rfl⟩
theorem jbR {ls:List Leg} (hok:∀l∈ls,qO l) (k:Nat) :∀l∈Ow ls k,qO l:=fun l hl=>by
 obtain ⟨e,he,rfl⟩ :=je7.1 hl
 exact ES (hok e (jfj he))
theorem I5 (A:Option Addr) (n c:Nat) (ls:List Leg) (w:World) (h:Legs w A n ls) (hok:∀l∈ls,qO l) (hn:n≤1048576) (h0:0<n) :
  Calls Tryz.prog 84 #[.slice A n c] w fun e w'=>∃v,e= .returned v∧w'.ownsRow w.heap.size 56 4 v (VK ls).length ((VK ls).flatMap jZ)∧Over w w':=by
 have hl:=h.1
 refine jU (m:=33) (Tryz.func84) J J (lb J) ?_;refine S7 ?_;refine kz (T:=56) (s:=4) ?_;refine N9 ?_;refine JI (X:=Nat×Option Addr×Nat) (fun x=>x.1≤n) (fun x=>n- x.1) (fun x=> [(3, .slice x.2.1 x.1 x.2.2),(8, .int .i64 (x.1:Int))]) (kK [2,6,7]) (fun x=> [JP (Bs.N ⟨w,[]⟩) 56 4 x.1 ((Ow ls x.1).flatMap jZ) x.2]) (0,none,0) (jeE _) ⟨J,sz⟩ (fun _ h=>h) ?_
 intro⟨k,rA,rc⟩ hk L hL1
 refine v9 ?_;refine ji (by first | (dsimp only;done) | (dsimp only;rfl) | rfl) ?_
 have hk:k≤n:=hk
 refine S5 ?_;refine cZ (fun c1=> ?_) (fun c1=> ?_)
 ·have hlt:k<n:= (by omega)
  obtain ⟨eb,eo,rfl,_⟩ :=h.2 (by omega)
  have hb1:=Z0 (Q6 hok (show k<ls.length by omega))
  refine S7 ?_;refine a9 (jj J J qp J (y6 (fun w' hs=>h.over hs.fin) hlt)) ?_;refine S1 ?_;refine aL (fun b1=> ?_);refine N10 ?_;refine a9 (jH Wc J J (fun w1 hs=>FX (lA (lg ls k)) (lB (lg ls k)) hb1.1 hb1.2 w1)) ?_;refine S2 ?_;refine cZ (fun c2=> ?_) (fun c2=> ?_)
  ·refine S7 ?_;refine Mb (k:=1) J J J J (J) (by rfl) jO.szx J ?_;refine N2 ?_;refine Mc (k:=1) J J J J (J) (by rfl) jO.szx J ?_;refine N5 ?_;refine Jp J J (Kb J) J (lb J) (fun b2=> ?_);refine N1 ?_;refine JL (k:=0) J j5 qa (by decide) J (by decide) J J J (fun w' hs=>q6 hs (k:=2) J J) (by simp [Value.oneCell']) (by unfold maxLen;omega) (by omega) (jeD _) (fun r1=> ?_);refine N8 ?_
   exact j8 hL1 ((k+1,r1)) ((show k+1≤n by omega)) (by simp only;omega) ⟨J,vi (by omega),sz⟩ (fun _ h=>h.upto ⟨by rw [Bl (by omega),jbT c2,jeQ];rfl,trivial⟩)
  ·refine S6 ?_;refine Jp J J (Kb J) J (lb J) (fun b3=> ?_);refine N1 ?_;refine JL (k:=0) J j5 qa (by decide) J (by decide) J J J (fun w' hs=>q6 hs (k:=2) J J) (by simp [Value.oneCell']) (by unfold maxLen;omega) (by omega) (jeD _) (fun r2=> ?_);refine N8 ?_
   exact j8 hL1 ((k+1,r2)) ((show k+1≤n by omega)) (by simp only;omega) ⟨J,vi (by omega),sz⟩ (fun _ h=>h.upto ⟨by rw [Bl (by omega),jds c2,jeQ];rfl,trivial⟩)
 ·have hin:k=n:=by omega
  subst hin
  have hnl:=ER (show k≤ls.length by omega)
  refine S6 ?_;refine QF (fun w hs=>K2 (k:=0) J hs h0) ?_
  rintro⟨eg,rfl⟩
  refine S3 ?_;refine WZ (k:=0) (X:= {ys:List Leg//ys.Perm (Ow ls k)∧NG ys}) (v:=fun _=> .tuple #[]) (r':=fun x=>JP 0 56 4 _ (x.1.flatMap jZ) (some ⟨eg,0,none⟩,rc)) ky J J J (by decide) J (fun w1 hs=>PV (hs.all 0 _ J).1 hnl (jbR hok k) hn h0) ?_
  rintro⟨ys,hperm,hris⟩
  refine N5 ?_;refine QB (k:=0) (r':=JP 0 56 4 (QA ys).length ((QA ys).flatMap jZ) (some ⟨eg,0,none⟩,rc)) kE J J J (by decide) J (fun w1 hs=>BW (hs.all 0 _ J).1 (hperm.length_eq.trans hnl) h0 (by omega)) (fun _ h=>h) J ?_;refine N3 ?_;refine jL J (.tmp J) ?_
  intro w' hs
  have hr:=hs.all 0 _ rfl
  have he:=En (show ys.Perm (ls.map Kz) by rw [Ow,jfb (by omega)] at hperm;exact hperm) hris
  exact⟨_,rfl,by rw [←he];exact KS hr.1 (fun b hb=> (hr.2.1 b hb).elim id (fun h=>by cases h)),hs.fin⟩
theorem I4 (A:Option Addr) (c:Nat) (w:World) :
  Calls Tryz.prog 84 #[.slice A 0 c] w fun e w'=>e= .returned (.slice none 0 0)∧Over w w':=by
 refine jU (m:=33) (Tryz.func84) J J (lb J) ?_;refine S16 ?_;refine qi (X:=Unit) (fun u=>True) (fun u=>0) (fun u=> [(3, .slice none 0 0),(8, .int .i64 0)]) (kK [2,6,7]) () (trivial) ⟨J,sz⟩ ?_
 intro u hu L hL1
 refine V5 ?_;refine cZ (fun c1=> ?_) (fun c1=> ?_)
 ·omega
 ·refine S8 ?_;refine a9 (jH ky J J (fun w h=>PT w)) ?_;refine S4 ?_;refine a9 (jH kE J J (fun w h=>BV w)) ?_;refine S3 ?_;refine jL J (.tmp J) ?_
  intro w' hs
  exact⟨rfl,hs.fin⟩
theorem I3 (A:Option Addr) (n c:Nat) (ls:List Leg) (w:World) (h:Legs w A n ls) (hok:∀l∈ls,qO l) (hn:n≤1048576) :
  Calls Tryz.prog 84 #[.slice A n c] w fun e w'=>∃v,e= .returned v∧w'.ownsRow w.heap.size 56 4 v (VK ls).length ((VK ls).flatMap jZ)∧Over w w':=by
 by_cases h0:0<n
 ·exact I5 A n c ls w h hok hn h0
 ·obtain rfl:n=0:=by omega
  have:ls= [] :=je9 h.1
  subst this
  refine(I4 A c w).mono ?_
  rintro e w' ⟨rfl,hb⟩
  exact⟨_,rfl,⟨rfl, .inl ⟨rfl,rfl⟩⟩,hb⟩
abbrev neV (x:Ne) :Value:= .agg #[.int .i64 x.e.ax, .int .i64 x.e.ay, .int .i64 x.e.bx, .int .i64 x.e.b_y, .int .i64 x.net, .int .i64 x.left, .int .i64 x.right]
def jbW (p e:Leg) :Bool:= !decide (Kz e=p)
def X5 (es:List Leg) (p:Leg) (k:Nat) :List Leg:= (es.take k).filter (jbW p)
def DJ (es:List Leg) (p:Leg) (k:Nat) :Int:=sm (fun e=>if Kz e=p then sg e else 0) (es.take k)
theorem jbO {es:List Leg} {p:Leg} {k:Nat} (h:k≤es.length) : -(k:Int)≤DJ es p k∧DJ es p k≤k:=by
 have:=jcL (f:=fun e=>if Kz e=p then sg e else 0) (l:=es.take k) fun e _=>by
  have:=Rk e
  split<;>omega
 rw [jeV,jfI h] at this
 exact this
theorem Pp {es:List Leg} {p:Leg} {k:Nat} (h:k<es.length) :DJ es p (k+1) =DJ es p k+ (if Kz (lg es k) =p then sg (lg es k) else 0) :=by
 rw [DJ,H4 _ h,yf h]
 rfl
theorem EN (es:List Leg) (p:Leg) :DJ es p es.length=xD es p:=by rw [DJ,jfr];rfl
theorem Pt {es:List Leg} {p:Leg} {k:Nat} (h:k<es.length) :X5 es p (k+1) =X5 es p k++ (if Kz (lg es k) =p then [] else [lg es k]) :=by
 rw [X5,jeS h,jfW,yf h]
 congr 1
 by_cases e:Kz (lg es k) =p<;>simp [jbW,e]
theorem EZ {es:List Leg} {p:Leg} {k:Nat} (h:k≤es.length) : (X5 es p k).length≤k:=by
 have:=jf0 (jbW p) (es.take k)
 rw [jeV,jfI h] at this
 exact this
theorem Gf {α:Type} (q:α→Bool) (f:α→Int) :∀l:List α,sm f (l.filter q) =sm (fun e=>if q e=true then f e else 0) l
 | [] =>rfl
 | a::l=>by
  rw [List.filter_cons]
  by_cases h:q a=true
  ·rw [if_pos h]
   simp only [sm,Gf q f l,if_pos h]
  ·rw [if_neg h]
   simp only [sm,Gf q f l,if_neg h]
   omega
theorem BT (h:Bool) (ls:List Leg) (x y:Int) :∀k,k≤ls.length→ue h ls x y k=sm (fun e=>Ko (vt h e) x y) (ls.take k)
 | 0,_=>rfl
 | k+1,hk=>by rw [ue,H4 _ (by omega),yf (by omega),BT h ls x y k (by omega)]
theorem jaY (es:List Leg) (p:Leg) :SR true (X5 es p es.length) (wP p) (w8 p) =Oz es p:=by
 rw [SR,BT _ _ _ _ _ (jeD _),jfr,X5,jfr,Gf]
 refine U2 fun e _=> ?_
 by_cases k:Kz e=p<;>simp [jbW,k]
theorem jct (h:Bool) (ls:List Leg) (x y:Int) : -(ls.length:Int)≤SR h ls x y∧SR h ls x y≤ls.length:=Gq h ls x y _
theorem UX {w:World} {B T n:Nat} {x:Option Addr×Nat} {ls:List Leg} (h: (JP B T 4 n (ls.flatMap jZ) x).P w) (hn:ls.length=n) :Legs w x.1 n ls:=by
 obtain ⟨A,c,e,h1,_⟩ :=GK h hn
 injection e with e1 e2 e3
 rw [e1]
 exact h1
theorem F6 {e f:Leg} : (e.ax==f.ax&&e.ay==f.ay&&e.bx==f.bx&&e.b_y==f.b_y) =decide (e=f) :=by
 rw [xu]
 exact decide_eq_decide.2 ⟨Eq.symm,Eq.symm⟩
theorem GO (A:Option Addr) (n c:Nat) (es:List Leg) (p:Leg) (w:World) (h:Legs w A n es) (hok:∀l∈es,qO l) (hn:n≤1048576) (hp:qO p) (hne:lA p≠lB p) (hord:¬wq (lB p) (lA p)) :
  Calls Tryz.prog 85 #[.slice A n c,jed p] w fun e w'=>e= .returned (neV (ZY es p))∧Over w w':=by
 have hl:=h.1
 have hb: ((-262144≤p.ax∧p.ax≤262144)∧-262144≤p.ay∧p.ay≤262144)∧(-262144≤p.bx∧p.bx≤262144)∧-262144≤p.b_y∧p.b_y≤262144:=⟨⟨hp.1,hp.2.1⟩,hp.2.2.1,hp.2.2.2⟩
 refine jU (m:=84) (Tryz.func85) J J (lb J) ?_;refine S3 ?_;refine aX (fun b1=> ?_);refine N1 ?_;refine aL (fun b2=> ?_);refine N7 ?_;refine a9 (JV J J (Yn J J)) ?_;refine S1 ?_;refine aL (fun b3=> ?_);refine N6 ?_;refine kz (T:=56) (s:=4) ?_;refine N9 ?_;refine JI (X:=Nat×Option Addr×Nat) (fun x=>x.1≤n) (fun x=>n- x.1) (fun x=> [(6, .slice x.2.1 (X5 es p x.1).length x.2.2),(17, .int .i64 (x.1:Int))]) (kK [3,4,5,15,16]) (fun x=> [.cel b1 56 [.int .i64 p.ax, .int .i64 p.ay, .int .i64 p.bx, .int .i64 p.b_y], .cel b2 110 [.int .i64 0, .int .i64 0, .int .i64 0, .int .i64 0, .int .i64 0, .int .i64 0, .int .i64 0], .cel b3 110 [.int .i64 p.ax, .int .i64 p.ay, .int .i64 p.bx, .int .i64 p.b_y, .int .i64 (DJ es p x.1), .int .i64 0, .int .i64 0],JP (Bs.N ⟨w,[]⟩) 56 4 (X5 es p x.1).length ((X5 es p x.1).flatMap jZ) x.2]) (0,none,0) (jeE _) ⟨J,sz⟩ (fun _ h=>h) ?_
 intro⟨k,rA,rc⟩ hk L hL1
 refine v9 ?_;refine ji (by first | (dsimp only;done) | (dsimp only;rfl) | rfl) ?_
 have hk:k≤n:=hk
 have hnb:=jbO (p:=p) (show k≤es.length by omega)
 have hob:=EZ (p:=p) (show k≤es.length by omega)
 refine S5 ?_;refine cZ (fun c1=> ?_) (fun c1=> ?_)
 ·have hlt:k<n:= (by omega)
  obtain ⟨eb,eo,rfl,_⟩ :=h.2 (by omega)
  have hN:=Pp (p:=p) (show k<es.length by omega)
  have hO:=Pt (p:=p) (show k<es.length by omega)
  refine S7 ?_;refine a9 (jj J J qp J (y6 (fun w' hs=>h.over hs.fin) hlt)) ?_;refine S1 ?_;refine aL (fun b4=> ?_);refine N14 ?_;refine cZ (fun c2=> ?_) (fun c2=> ?_)
  ·have he:lg es k=p:=of_decide_eq_true (F6▸c2)
   have hnp:Kz (lg es k) =p:= (HV hord hne).2 (.inl he)
   rw [if_pos hnp,he,Nc hord] at hN
   rw [if_pos hnp,je8] at hO
   refine S6 ?_;refine YQ (k:=2) J J J J (J) (by rfl) kd.szx J ?_;refine N8 ?_
   exact j8 hL1 ((k+1,rA,rc)) ((show k+1≤n by omega)) (by simp only;omega) ⟨(by rw [hO];rfl),vi (by omega),sz⟩ (fun _ h=>h.upto ⟨J,J,by rw [hN],by rw [hO],trivial⟩)
  ·have he:¬lg es k=p:=of_decide_eq_false (F6▸c2)
   refine S6 ?_;refine a9 (JV J J (UA J J)) ?_;refine S3 ?_;refine cZ (fun c3=> ?_) (fun c3=> ?_)
   ·have hr:lg es k=vO p:=of_decide_eq_true (F6 (f:=vO p)▸c3)
    have hnp:Kz (lg es k) =p:= (HV hord hne).2 (.inr hr)
    rw [if_pos hnp,hr,jat hord hne] at hN
    rw [if_pos hnp,je8] at hO
    refine S6 ?_;refine YQ (k:=2) J J J J (J) (by rfl) kd.szx J ?_;refine N8 ?_
    exact j8 hL1 ((k+1,rA,rc)) ((show k+1≤n by omega)) (by simp only;omega) ⟨(by rw [hO];rfl),vi (by omega),sz⟩ (fun _ h=>h.upto ⟨J,J,by rw [hN];rfl,by rw [hO],trivial⟩)
   ·have hr:¬lg es k=vO p:=of_decide_eq_false (F6 (f:=vO p)▸c3)
    have hnp:¬Kz (lg es k) =p:=fun k=> ((HV hord hne).1 k).elim he hr
    rw [if_neg hnp,Int.add_zero] at hN
    rw [if_neg hnp] at hO
    refine S4 ?_;refine Jp J J (Kb J) J (lb J) (fun b5=> ?_);refine N1 ?_;refine JL (k:=3) J j5 qa (by decide) J (by decide) J J J (fun w' hs=>q6 hs (k:=5) J J) (by simp [Value.oneCell']) (by unfold maxLen;omega) (by omega) (jeD _) (fun r1=> ?_);refine N9 ?_
    exact j8 hL1 ((k+1,r1)) ((show k+1≤n by omega)) (by simp only;omega) ⟨(by rw [hO,jeC];rfl),vi (by omega),sz⟩ (fun _ h=>h.upto ⟨J,J,by rw [hN],by rw [hO,jeC,jeQ];rfl,trivial⟩)
 ·have hin:k=n:=by omega
  subst hin
  rw [show DJ es p k=xD es p by rw [←hl,EN]] at*
  have hw1:=jct true (X5 es p k) (wP p) (w8 p)
  have hw2:SR true (X5 es p k) (wP p) (w8 p) =Oz es p:=by rw [←hl,jaY]
  rw [hw2] at hw1
  have hoo:∀l∈X5 es p k,qO l:=fun l hl=>hok l (jfj ((jgf.1 hl).1))
  refine S22 ?_;refine a9 (JV J J (kX J J)) ?_;refine a9 (jH xK J J (fun w1 hs=>hw2▸OH rA _ rc (X5 es p k) (wP p) (w8 p) true w1 (UX (hs.all 3 _ J).1 J) (by omega) hoo (by unfold Ym wP;omega) (by unfold Ym w8;omega))) ?_;refine S13 ?_;refine cZ (fun c4=> ?_) (fun c4=> ?_)
  ·refine S8 ?_;refine YR (k:=2) J J J J (J) (by rfl) kd.szx J ?_;refine N2 ?_;refine YS (k:=2) J J J J (J) (by rfl) kd.szx J ?_;refine N8 ?_;refine jL J (J3 (k:=1) J VH J J) ?_
   intro w' hs
   exact⟨by rw [ZY,if_pos c4],hs.fin⟩
  ·refine S8 ?_;refine YR (k:=2) J J J J (J) (by rfl) kd.szx J ?_;refine N2 ?_;refine YS (k:=2) J J J J (J) (by rfl) kd.szx J ?_;refine N8 ?_;refine jL J (J3 (k:=1) J VH J J) ?_
   intro w' hs
   exact⟨by rw [ZY,if_neg c4],hs.fin⟩
theorem Legs.ovx {w w':World} {X:List Nat} {A:Option Addr} {n:Nat} {ls:List Leg} (h:Legs w A n ls) (ho:Ovx ⟨w,X⟩ w') (hne:0<n→∀p,A=some p→p.block∉X) :Legs w' A n ls:=by
 refine⟨h.1,fun hn=> ?_⟩
 obtain ⟨b,o,rfl,hlt,hc⟩ :=h.2 hn
 have hs:w.heap.size≤w'.heap.size:=ho.size
 have hb:w'.heap[b]? =w.heap[b]? :=ho.block b hlt (hne hn _ rfl)
 have hcell:∀o',w'.cell? ⟨b,o',none⟩ =w.cell? ⟨b,o',none⟩ :=fun o'=>by simp only [World.cell?,hb]
 exact⟨b,o,rfl,by omega,fun k hk=>by rw [hcell,hcell,hcell,hcell];exact hc k hk⟩
def PF (x:Option Addr×Nat) :List Nat:=match x.1 with
 | some p=> [p.block]
 | none=> []
theorem X9 {B T s n:Nat} {xs:List Value} {x:Option Addr×Nat} {b:Nat} : (JP B T s n xs x).F b↔b∈PF x:=by
 show Value.ownBlock (.slice x.1 n x.2) =some b↔_
 unfold PF
 cases hx:x.1 with
 | none=>simp [Value.ownBlock]
 | some p=>
  simp only [Value.ownBlock,jeT]
  constructor
  ·intro h;injection h with h;exact h.symm
  ·intro h;rw [h]
theorem q5 {w w':World} {B T s n:Nat} {xs:List Value} {x:Option Addr×Nat} (h: (JP B T s n xs x).P w) (hO:Over w w') : (JP B T s n xs x).P w':=
 (JP B T s n xs x).dep w w' h hO.size fun b hb _=>hO.out.block b hb
abbrev Fr (l:List Nt) (x:Option Addr×Nat) :Res:=JP 0 125 8 l.length (l.flatMap qe) x
section
variable {P:Program} {n:Nat} {env:List (Nat×Value)} {w0:Bs} {Rs:List Res} {o:Oper} {Q:Exit→Act→World→Prop} {K:Act→World→Prop}
theorem qx {T U:TypeId} {x y:Operand} {B m j s:Nat} {xs:List Value} {r:Option Addr×Nat} (hr:∀w,St w0 Rs w→(JP B U s m xs r).P w) (ho:o.op= .indexAddr T x y) (hx:ev env x=some (.slice r.1 m r.2)) (hy:ev env y=some (.int .i64 (j:Int))) (hT:TyL P T U s) (hj:j<m) :
  Qt P o n env w0 Rs (.pointer (some ⟨wN r.1,0+j*s,none⟩)) :=fun a w hf hs=>by
 have e:=jb9 (hr w hs) (by omega)
 rw [e] at hx
 exact jT (j:=j) ho hx hy hT hj a w hf hs
theorem DM {l:List Nt} {j:Nat} (h:j<l.length) :l[j]? =some (nt l j) :=by rw [List.getElem?_eq_getElem h,Yk h]
theorem kf (x:Nt) : (qe x).length=8:=rfl
theorem ZL {m:Nat} {l:List Nt} {r:Option Addr×Nat} {j off i:Nat} {v:Value} (hr:∀w,St w0 Rs w→(JP 0 125 8 m (l.flatMap qe) r).P w) (hj:j<l.length) (he:off=j*8+i) (hv: (qe (nt l j))[i]? =some v) :∀w,St w0 Rs w→w.cell? ⟨wN r.1,off,none⟩ =some v:=fun w hs=>by
 refine Xc (hr w hs) ?_
 have hi:= (List.getElem?_eq_some_iff.1 hv).1
 rw [kf] at hi
 rw [he,xf qe 8 kf l j i hj hi,Yk hj]
 exact hv
theorem z7 {m:Nat} {l:List Nt} {r:Option Addr×Nat} {j off:Nat} (vs:List Value) (i:Nat) (hr:∀w,St w0 Rs w→(JP 0 125 8 m (l.flatMap qe) r).P w) (hj:j<l.length) (he:off=j*8+i) (hv:∀q v,vs[q]? =some v→(qe (nt l j))[i+q]? =some v) :∀w,St w0 Rs w→∀q v,vs[q]? =some v→w.cell? ⟨wN r.1,off+q,none⟩ =some v:=fun w hs q v h=>
 ZL hr hj (by omega) (hv q v h) w hs
end
theorem ZS {a b:Value} {cs:List Value} {i:Nat} (h0:cs[i]? =some a) (h1:cs[i+1]? =some b) :∀q v,[a,b][q]? =some v→cs[i+q]? =some v:=fun q v h=>by
 match q,h with
 | 0,h=>simp at h;subst h;exact h0
 | 1,h=>simp at h;subst h;exact h1
theorem HM {a b c d:Value} {cs:List Value} {i:Nat} (h0:cs[i]? =some a) (h1:cs[i+1]? =some b) (h2:cs[i+2]? =some c) (h3:cs[i+3]? =some d) :∀q v,[a,b,c,d][q]? =some v→cs[i+q]? =some v:=fun q v h=>by
 match q,h with
 | 0,h=>simp at h;subst h;exact h0
 | 1,h=>simp at h;subst h;exact h1
 | 2,h=>simp at h;subst h;exact h2
 | 3,h=>simp at h;subst h;exact h3
theorem jcM {α:Type} {f:α→Int} (h:∀x,0≤f x) :∀ {l:List α} {x:α},x∈l→f x≤sm f l
 | y::l,x,hx=>by
  have h1:=h y
  have h2:=jaz h l
  simp only [sm]
  rcases je0.1 hx with rfl | hx
  ·omega
  ·have:=jcM h hx;omega
theorem Zi {s:Bool} {l:List Nt} {k:Nat} (h:k<l.length) : -aS s l≤v6 s (nt l k)∧v6 s (nt l k)≤aS s l:=by
 have h1:=jcM (f:=fun x=>zK (v6 s x)) (fun x=>Dl _) (XU h)
 have h2:=Tv (v6 s (nt l k))
 unfold aS
 omega
theorem FA {s:Bool} {es:List Leg} {l:List Nt} {i:Nat} (h:i<es.length) :qW s (es.take (i+1)) l=wV s (lg es i) (qW s (es.take i) l) :=by
 rw [jeS h,yf h]
 simp [qW]
theorem Wx {s:Bool} :∀(es:List Leg) (l:List Nt),(qW s es l).length≤l.length+es.length
 | [],l=>jeD _
 | e::es,l=>by
  have h1:=Wx (s:=s) es (wV s e l)
  have h2:=FC (s:=s) (e:=e) l
  have e1:qW s (e::es) l=qW s es (wV s e l) :=rfl
  rw [e1,jeP]
  omega
theorem jdt {l:List Nt} {k:Nat} {p:Leg} (hk:k≤l.length) :nt (XQ l k p) k=YL p∧(XQ l k p).length=l.length+1:=by
 unfold XQ
 refine⟨?_,by simp;omega⟩
 rw [nt,List.getD_eq_getElem?_getD,List.getElem?_append_right (by simp;omega)]
 simp [jeV,jfI hk]
theorem Pa {l:List Nt} {k:Nat} {p:Leg} (hk:k≤l.length) : (XQ l k p).flatMap qe= (l.flatMap qe).take (k*8) ++qe (YL p) ++ (l.flatMap qe).drop (k*8) :=by
 have e1: (l.flatMap qe).take (k*8) = (l.take k).flatMap qe:=by
  conv=>lhs;rw [←jeU k l,jeQ]
  rw [List.take_left' (by rw [wZ qe 8 kf,jeV,jfI hk])]
 have e2: (l.flatMap qe).drop (k*8) = (l.drop k).flatMap qe:=by
  conv=>lhs;rw [←jeU k l,jeQ]
  rw [List.drop_left' (by rw [wZ qe 8 kf,jeV,jfI hk])]
 rw [e1,e2,XQ,jeQ,je4,jeN]
theorem ET (l:List Nt) :∀u∈l.flatMap qe,u.oneCell'=true:=fun u hu=>by
 obtain ⟨x,_,hx⟩ :=jgh.1 hu
 simp only [qe,jZ,jeG,jeL,je0,jfQ,or_false] at hx
 rcases hx with rfl | rfl | rfl | rfl | rfl | rfl | rfl | rfl<;>rfl
theorem CF {l:List Nt} {k:Nat} {e:Leg} (h:k<l.length) {v:Int} (hv:v= (nt l k).two+sg e) :qk (l.flatMap qe) (0+k*8+5) [.int .i64 v] = (l.set k (VP true (sg e) (nt l k))).flatMap qe:=
 Ua qe kf (DM h) (jZ (nt l k).e++ [.int .i64 (nt l k).one]) [.int .i64 (nt l k).two] [.int .i64 v] [.int .i64 (nt l k).l1, .int .i64 (nt l k).l2] (by simp [qe]) (by subst hv;simp [qe,VP]) rfl (by simp [jZ])
theorem CE {l:List Nt} {k:Nat} {e:Leg} (h:k<l.length) {v:Int} (hv:v= (nt l k).one+sg e) :qk (l.flatMap qe) (0+k*8+4) [.int .i64 v] = (l.set k (VP false (sg e) (nt l k))).flatMap qe:=
 Ua qe kf (DM h) (jZ (nt l k).e) [.int .i64 (nt l k).one] [.int .i64 v] [.int .i64 (nt l k).two, .int .i64 (nt l k).l1, .int .i64 (nt l k).l2] (by simp [qe]) (by subst hv;simp [qe,VP]) rfl (by simp [jZ])
theorem Xf {l:List Nt} {k:Nat} {x:Nt} : (l.set k x).length=l.length:=jfM
theorem ja6 {n:Nat} {env:List (Nat×Value)} {w0:Bs} {Rs:List Res} {K:Act→World→Prop} (k s:Nat) {b U:Nat} (hk:Rs[k]? =some (.cel b U [])) (h:At n env w0 (Rs.set k (.row 0 U s (.slice (some ⟨b,0,none⟩) 0 0) 0 [])) K) :At n env w0 Rs K:=fun a w hf hs=>by
 refine h a w hf (hs.chg hk (fun hP=> ?_) (fun c hc=> ?_) J)
 ·exact⟨by simp, .inr ⟨b,0,#[],rfl,jeE _,hP,jeD _,by unfold maxLen;omega,by simp,by simp⟩⟩
 ·have:some b=some c:=hc
  injection this with this
  exact this.symm
theorem jbH {p:Nat→Prop} {k:Nat} (h:∀j,j<k→p j) (hk:p k) :∀j,j<k+1→p j:=fun j hj=>by
 rcases jfX (Nat.le_of_lt_succ hj) with h1 | rfl
 ·exact h j h1
 ·exact hk
theorem jdk {k m:Nat} {e p:Leg} (hk:k<m) (h2:¬wq (lA e) (lA p)) (h3: (e.ax==p.ax&&e.ay==p.ay) =true) :decide (wq (lB e) (lB p)) =decide (k<m∧zY e p) :=by
 simp only [jeF,beq_iff_eq] at h3
 refine decide_eq_decide.2 ⟨fun h=>⟨hk, .inr ⟨Prod.ext h3.1 h3.2,h⟩⟩,fun h=> ?_⟩
 rcases h.2 with h | h
 ·exact absurd h h2
 ·exact h.2
theorem jdl {k m:Nat} {e p:Leg} (h2:¬wq (lA e) (lA p)) (h3: (e.ax==p.ax&&e.ay==p.ay) =false) :false=decide (k<m∧zY e p) :=by
 refine(decide_eq_false fun h=> ?_).symm
 rcases h.2 with h | h
 ·exact h2 h
 ·rw [show e.ax=p.ax from congrArg Prod.fst h.1,show e.ay=p.ay from congrArg Prod.snd h.1] at h3
  simp at h3
theorem LP (A:Option Addr) (n c:Nat) (es:List Leg) (s:Bool) (l:List Nt) (x:Option Addr×Nat) (w:World) (h:Legs w A n es) (hok:∀l∈es,qO l) (hn:n≤4096) (hl:l.length≤4096) (ha:∀t,aS t l≤4096)
  (hr: (Fr l x).P w) (hne:0<n→∀p,A=some p→p.block∉PF x) :
  Calls Tryz.prog 62 #[.slice x.1 l.length x.2, .slice A n c, .bool s] w fun e w'=>∃y:Option Addr×Nat,e= .returned (.slice y.1 (qW s es l).length y.2)∧Wrs (Fr l x).F w w'∧(Fr (qW s es l) y).P w'∧(∀b,(Fr (qW s es l) y).F b→(Fr l x).F b∨w.heap.size≤b)∧(Fr (qW s es l) y).B=0:=by
 have hln:=h.1
 refine yK (m:=119) (PF x) (Fr l x) (hr) (fun b hb=>X9.1 hb) J (Tryz.func62) J J (lb J) ?_;refine S10 ?_;refine JI (X:=Nat×Option Addr×Nat) (fun y=>y.1≤n) (fun y=>n- y.1) (fun y=> [(0, .slice y.2.1 (qW s (es.take y.1) l).length y.2.2),(7, .int .i64 (y.1:Int))]) (kK [1,2,6]) (fun y=> [Fr (qW s (es.take y.1) l) y.2]) (0,x) (jeE _) ⟨J,sz⟩ (fun _ h=>h) ?_
 intro⟨i,rA,rc⟩ hi L hL1
 refine v9 ?_;refine ji (by first | (dsimp only;done) | (dsimp only;rfl) | rfl) ?_
 have hi:i≤n:=hi
 obtain ⟨M,hM⟩ :∃M,M=qW s (es.take i) l:=⟨_,rfl⟩
 have hMl:M.length≤8192:= (by have:=Wx (s:=s) (es.take i) l;rw [jeV] at this;rw [hM];omega)
 have hMa:∀t,aS t M≤8192:= (fun t=>by have h1:=Yh (s:=s) (t:=t) (es.take i) l;have h2:=ha t;rw [jeV] at h1;rw [hM];split at h1<;>omega)
 rw [←hM]
 refine S8 ?_;refine cZ (fun c1=> ?_) (fun c1=> ?_)
 ·have hlt:i<n:= (by omega)
  obtain ⟨eb,eo,rfl,_⟩ :=h.2 (by omega)
  obtain ⟨E,hE⟩ :∃E,E=lg es i:=⟨_,rfl⟩
  have hEo:qO E:=hE▸Q6 hok (show i<es.length by omega)
  have hnext:qW s (es.take (i+1)) l=wV s E M:= (by rw [FA (by omega),hM,hE])
  refine S9 ?_;refine a9 (jj J J Kq J (y6 (fun w' hs=>h.ovx hs.over hne) hlt)) ?_;refine S1 ?_;refine aL (fun b1=> ?_);refine N3 ?_
  rw [←hE]
  refine S4 ?_;refine wW [(9, .int .i64 (sg E))] ([Fr M (rA,rc), .cel b1 118 (jZ (Kz E))]) (kK [1,2,6,0,7,12,13,14,15,18,19,20,21,8]) (fun L h_t26=> ?_) ?_
  ·refine S6 ?_;refine a9 (jH kT J J (fun w1 hs=>wK (lB E) (lA E) w1)) ?_;refine S1 ?_;refine cZ (fun c2=> ?_) (fun c2=> ?_)
   ·refine S6 ?_;refine a9 (JV J J (WS J J)) ?_;refine S6 ?_
    exact Jb h_t26 ⟨vi (by rw [sg,if_pos c2]),sz⟩ (fun _ h=>h.upto ⟨J,by rw [Kz,if_pos c2];rfl,trivial⟩)
   ·refine S2 ?_
    exact Jb h_t26 ⟨vi (by rw [sg,if_neg c2]),sz⟩ (fun _ h=>h.upto ⟨J,by rw [Kz,if_neg c2];rfl,trivial⟩)
  ·refine v9 ?_
   obtain ⟨p,hp⟩ :∃p,p=Kz E:=⟨_,rfl⟩
   rw [←hp]
   refine S6 ?_;refine qi (X:=Nat) (fun k=>k≤M.length∧∀j,j<k→zY (nt M j).e p) (fun k=>M.length- k) (fun k=> [(10, .int .i64 (k:Int))]) (kK [1,2,6,0,7,12,13,14,15,18,19,20,21,8,9]) 0 (⟨jeE _,fun j hj=>absurd hj (by omega)⟩) ⟨J,sz⟩ ?_
   intro k hk L hL2
   refine v9 ?_
   obtain ⟨hkl,hkq⟩ :=hk
   refine S1 ?_;refine qd [(68, .bool (decide (k<M.length∧zY (nt M k).e p)))] (kK [1,2,6,0,7,12,13,14,15,18,19,20,21,8,9,10]) (fun L h_10=> ?_) ?_
   ·refine UL mixed (by kernel_rfl) (fun _ _ d _ _ h=>by cases d<;>exact h) ?_;refine x9 q9 ?_;refine x9 q9 ?_;refine x9 (JA J J Jz) ?_;refine x9 (j6 J J J) ?_;refine x9 q9 ?_;refine K7 36 J (fun g1=> ?_) (fun g1=> ?_)
    ·try simp only[zz] at g1
     have hk':k<M.length:= (by omega)
     refine y9 q9 ?_;refine y9 q9 ?_;refine y9 (qx (j:=k) (fun w hs=> (hs.all 0 _ J).1) J J J Jz hk') ?_;refine y9 (jh J J q7) ?_;refine y9 (jh J J Jy) ?_;refine y9 (jj J J jl J (z7 [.int .i64 (nt M k).e.ax, .int .i64 (nt M k).e.ay] 0 (fun w hs=> (hs.all 0 _ J).1) hk' (by omega) (ZS J J))) ?_;refine y9 (jh J J Jy) ?_;refine y9 (jj J J jl J (Yg (k:=1) J J J)) ?_;refine y9 (jH kT J J (fun w1 hs=>wK (lA (nt M k).e) (lA p) w1)) ?_;refine y9 q9 ?_;refine K7 46 J (fun g2=> ?_) (fun g2=> ?_)
     ·try simp only[zz] at g2
      refine z9 ?_;refine z9 ?_;refine z9 ?_;refine z9 ?_;refine z9 ?_;refine z9 ?_;refine z9 ?_;refine z9 ?_;refine z9 ?_;refine z9 ?_;refine qs J J J J J (by decide) ?_;refine qs J J J J J (by decide) ?_;refine qs J J J J J (by decide) ?_;refine qs J J J J J (by decide) ?_;refine qs J J J J J (by decide) ?_;refine qs J J J J J (by decide) ?_;refine qs J J J J J (by decide) ?_;refine qs J J J J J (by decide) ?_;refine qs J J J J J (by decide) ?_;refine z9 ?_;refine y9 (Jc J J J) ?_;refine x9 (Jc J J J) ?_;refine Vf ?_;refine S1 ?_
      exact Jb h_10 ⟨vb (decide_eq_true ⟨hk', .inl g2⟩).symm,sz⟩ (u9 J)
     ·try simp only[zz] at g2
      refine y9 q9 ?_;refine y9 q9 ?_;refine y9 (qx (j:=k) (fun w hs=> (hs.all 0 _ J).1) J J J Jz hk') ?_;refine y9 (jh J J q7) ?_;refine y9 (jh J J Jy) ?_;refine y9 (jj J J jl J (z7 [.int .i64 (nt M k).e.ax, .int .i64 (nt M k).e.ay] 0 (fun w hs=> (hs.all 0 _ J).1) hk' (by omega) (ZS J J))) ?_;refine y9 (jh J J Jy) ?_;refine y9 (jj J J jl J (Yg (k:=1) J J J)) ?_;refine y9 (vN J J J) ?_;refine y9 q9 ?_;refine K7 56 J (fun g3=> ?_) (fun g3=> ?_)
      ·try simp only[zz] at g3
       refine y9 q9 ?_;refine y9 q9 ?_;refine y9 (qx (j:=k) (fun w hs=> (hs.all 0 _ J).1) J J J Jz hk') ?_;refine y9 (jh J J q7) ?_;refine y9 (jh J J JB) ?_;refine y9 (jj J J jl J (z7 [.int .i64 (nt M k).e.bx, .int .i64 (nt M k).e.b_y] 2 (fun w hs=> (hs.all 0 _ J).1) hk' (by omega) (ZS J J))) ?_;refine y9 (jh J J JB) ?_;refine y9 (jj J J jl J (Yg (k:=1) J J J)) ?_;refine y9 (jH kT J J (fun w1 hs=>wK (lB (nt M k).e) (lB p) w1)) ?_;refine y9 (Jc J J J) ?_;refine y9 (jM J J J) ?_;refine x9 (Jc J J J) ?_;refine Vf ?_;refine S1 ?_
       exact Jb h_10 ⟨vb (jdk hk' g2 g3),sz⟩ (u9 J)
      ·try simp only[zz] at g3
       refine z9 ?_;refine z9 ?_;refine z9 ?_;refine z9 ?_;refine z9 ?_;refine z9 ?_;refine z9 ?_;refine z9 ?_;refine z9 ?_;refine y9 (jM J J J) ?_;refine y9 (jM J J J) ?_;refine x9 (Jc J J J) ?_;refine Vf ?_;refine S1 ?_
       exact Jb h_10 ⟨vb (jdl g2 g3),sz⟩ (u9 J)
    ·try simp only[zz] at g1
     refine z9 ?_;refine z9 ?_;refine z9 ?_;refine z9 ?_;refine z9 ?_;refine z9 ?_;refine z9 ?_;refine z9 ?_;refine z9 ?_;refine z9 ?_;refine qs J J J J J (by decide) ?_;refine qs J J J J J (by decide) ?_;refine qs J J J J J (by decide) ?_;refine qs J J J J J (by decide) ?_;refine qs J J J J J (by decide) ?_;refine qs J J J J J (by decide) ?_;refine qs J J J J J (by decide) ?_;refine qs J J J J J (by decide) ?_;refine qs J J J J J (by decide) ?_;refine qs J J J J J (by decide) ?_;refine qs J J J J J (by decide) ?_;refine qs J J J J J (by decide) ?_;refine qs J J J J J (by decide) ?_;refine qs J J J J J (by decide) ?_;refine qs J J J J J (by decide) ?_;refine qs J J J J J (by decide) ?_;refine qs J J J J J (by decide) ?_;refine qs J J J J J (by decide) ?_;refine qs J J J J J (by decide) ?_;refine qs J J J J J (by decide) ?_;refine z9 ?_;refine x9 (jM J J J) ?_;refine Vf ?_;refine S1 ?_
     exact Jb h_10 ⟨vb (decide_eq_false fun h=>by omega).symm,sz⟩ (u9 J)
   ·refine v9 ?_;refine cZ (fun c3=> ?_) (fun c3=> ?_)
    ·refine S10 ?_
     exact J8 hL2 (k+1) (⟨by omega,jbH hkq c3.2⟩) (by omega) ⟨vi (by omega),sz⟩ (u9 J)
    ·refine S5 ?_;refine KZ (X:=List Nt×Option Addr×Nat) (fun z=>k<z.1.length∧qW s (es.take (i+1)) l=z.1.set k (VP s (sg E) (nt z.1 k))∧z.1.length≤8193∧∀t,-8192≤v6 t (nt z.1 k)∧v6 t (nt z.1 k)≤8192) (fun z=> [(0, .slice z.2.1 z.1.length z.2.2)]) (kK [1,2,6,7,12,13,14,15,18,19,20,21,8,9,10,68]) (fun z=> [Fr z.1 z.2, .cel b1 118 (jZ p)]) (fun L h_t83=> ?_) ?_
     ·refine qd [(83, .bool (!decide (k<M.length∧(nt M k).e=p)))] (kK [1,2,6,0,7,12,13,14,15,18,19,20,21,8,9,10,68]) (fun L h_12=> ?_) ?_
      ·refine UL mixed (by kernel_rfl) (fun _ _ d _ _ h=>by cases d<;>exact h) ?_;refine x9 q9 ?_;refine x9 q9 ?_;refine x9 (JA J J Jz) ?_;refine x9 (qB J J J) ?_;refine x9 q9 ?_;refine K7 75 J (fun g4=> ?_) (fun g4=> ?_)
       ·try simp only[zz] at g4
        refine z9 ?_;refine z9 ?_;refine z9 ?_;refine z9 ?_;refine z9 ?_;refine z9 ?_;refine z9 ?_;refine x9 (Jc J J J) ?_;refine Vf ?_;refine S1 ?_
        exact Jb h_12 ⟨vb (by rw [decide_eq_false (fun h=>by omega)];rfl),sz⟩ (u9 J)
       ·try simp only[zz] at g4
        refine y9 q9 ?_;refine y9 q9 ?_;refine y9 (qx (j:=k) (fun w hs=> (hs.all 0 _ J).1) J J J Jz (by omega)) ?_;refine y9 (jh J J q7) ?_;refine y9 (jj J J Kq J (z7 [.int .i64 (nt M k).e.ax, .int .i64 (nt M k).e.ay, .int .i64 (nt M k).e.bx, .int .i64 (nt M k).e.b_y] 0 (fun w hs=> (hs.all 0 _ J).1) (show k<M.length by omega) (by omega) (HM J J J J))) ?_;refine y9 (jj J J Kq J (jF (k:=1) J)) ?_;refine y9 (YU J J J) ?_;refine x9 (jM J J J) ?_;refine Vf ?_;refine S1 ?_
        exact Jb h_12 ⟨vb (by rw [F6 (e:= (nt M k).e) (f:=p)];have:k<M.length:= (by omega);simp [this]),sz⟩ (u9 J)
      ·refine v9 ?_;refine cZ (fun c4=> ?_) (fun c4=> ?_)
       ·have hstop:k<M.length→¬zY (nt M k).e (Kz E)∧(nt M k).e≠Kz E:= (fun h=>⟨fun h2=>c3 ⟨h,hp▸h2⟩,fun h2=>c4 ⟨h,hp▸h2⟩⟩)
        have hnew:qW s (es.take (i+1)) l= (XQ M k p).set k (VP s (sg E) (nt (XQ M k p) k)) := (by rw [hnext,FD hkl (fun j hj=>hp▸hkq j hj) hstop,hp])
        obtain ⟨hnk,hnl⟩ :=jdt (p:=p) hkl
        have hsg:=Rk E
        have hkI:k< (XQ M k p).length:= (by omega)
        refine QF (fun w hs=>wC (hs.all 0 _ J).1) ?_
        intro hcap
        refine S3 ?_;refine Jp J J (Yr) J (lb J) (fun b2=> ?_);refine n9 ?_;refine ja6 2 8 J ?_;refine ji (by simp only [jeL,jeG,jeM,jeO,jeJ,jeI,Value.cells,jeK];rfl) ?_;refine S2 ?_;refine a9 (kb J J J Jz (by omega)) ?_;refine S1 ?_;refine JL (k:=2) J Jz ud (by decide) J (by decide) J J J (fun w' hs=>P4 (hs.all 0 _ J).1 hkl) ((fun u hu=>ET M u (jfj hu))) (by unfold maxLen;omega) (by omega) (jeE _) (fun r1=> ?_);refine N6 ?_;refine a9 (JV J J (Z2 J)) ?_;refine S1 ?_;refine Jp J J (ym J) J (lb J) (fun b3=> ?_);refine N1 ?_;refine JL (k:=2) J Jz ud (by decide) J (by decide) J J J (fun w' hs=>q6 hs (k:=3) J J) (by simp [Value.oneCell']) (by unfold maxLen;omega) (by omega) (jeE _) (fun r2=> ?_);refine N6 ?_;refine a9 (KL J J J Jz hkl) ?_;refine S1 ?_;refine JL (k:=2) J Jz ud (by decide) J (by decide) J J J (fun w' hs=>PZ (hs.all 0 _ J).1 hkl) ((fun u hu=>ET M u (jfy hu))) (by unfold maxLen;omega) (by omega) (jeE _) (fun r3=> ?_);refine N2 ?_
        rw [show 0+k+1+ (M.length- k) = (XQ M k p).length by omega]
        rw [show List.take (k*8) (List.flatMap qe M) ++ [Value.int IntKind.i64 p.ax,Value.int IntKind.i64 p.ay,Value.int IntKind.i64 p.bx,Value.int IntKind.i64 p.b_y,Value.int IntKind.i64 0,Value.int IntKind.i64 0,Value.int IntKind.i64 0,Value.int IntKind.i64 0] ++List.drop (k*8) (List.flatMap qe M) = (XQ M k p).flatMap qe from(Pa hkl).symm]
        exact JZ h_t83 ((XQ M k p,r3)) (⟨hkI,hnew,by simp only;omega,fun t=>by rw [hnk];cases t<;> (show-8192≤(0:Int)∧(0:Int)≤8192;omega)⟩) ⟨rfl,sz⟩ (fun _ h=> (h.picks [2,1] (by decide)).upto ⟨rfl,sz⟩)
       ·have hst:k<M.length∧(nt M k).e=p:=c4
        have hold:qW s (es.take (i+1)) l=M.set k (VP s (sg E) (nt M k)) := (by rw [hnext,FE hst.1 (fun j hj=>hp▸hkq j hj) (hp▸hst.2)])
        refine S2 ?_
        exact JZ h_t83 ((M,rA,rc)) (⟨hst.1,hold,by simp only;omega,fun t=>by have h1:=Zi (s:=t) hst.1;have h2:=hMa t;simp only;omega⟩) ⟨J,sz⟩ (fun _ h=>h.picks [0,1] (by decide))
     ·rintro⟨I,qA,qc⟩ ⟨hIk,hIn,hIl,hIa⟩
      refine v9 ?_;refine ji (by first | (dsimp only;done) | (dsimp only;rfl) | rfl) ?_
      have hIk:k<I.length:=hIk
      have hIl:I.length≤8193:=hIl
      have hIn:qW s (es.take (i+1)) l=I.set k (VP s (sg E) (nt I k)) :=hIn
      have hsg:=Rk E
      have hI1:=hIa true
      have hI2:=hIa false
      simp only [v6,if_true,jfC,if_false] at hI1 hI2
      refine S4 ?_;refine cZ (fun c5=> ?_) (fun c5=> ?_)
      ·refine S3 ?_;refine a9 (qx (j:=k) (fun w hs=> (hs.all 0 _ J).1) J J J Jz hIk) ?_;refine S1 ?_;refine a9 (jr J J jz (ZL (i:=5) (fun w hs=> (hs.all 0 _ J).1) hIk (by omega) J)) ?_;refine S2 ?_;refine a9 (qx (j:=k) (fun w hs=> (hs.all 0 _ J).1) J J J Jz hIk) ?_;refine S2 ?_;refine uz (k:=0) (vs:= [.int .i64 ((nt I k).two+sg E)]) J J J J (by rfl) (by rfl) kd.szx J J (by simp) (by rw [wZ qe 8 kf];simp only [jeP,je6];omega) ?_;refine n9 ?_
       rw [CF hIk rfl]
       refine S8 ?_
       exact j8 hL1 ((i+1,qA,qc)) ((show i+1≤n by omega)) (by simp only;omega) ⟨(by rw [hIn,Xf];rfl),vi (by omega),sz⟩ (fun _ h=>h.upto ⟨by rw [hIn,c5,Fr,Xf],trivial⟩)
      ·refine S3 ?_;refine a9 (qx (j:=k) (fun w hs=> (hs.all 0 _ J).1) J J J Jz hIk) ?_;refine S1 ?_;refine a9 (jr J J jz (ZL (i:=4) (fun w hs=> (hs.all 0 _ J).1) hIk (by omega) J)) ?_;refine S2 ?_;refine a9 (qx (j:=k) (fun w hs=> (hs.all 0 _ J).1) J J J Jz hIk) ?_;refine S2 ?_;refine uz (k:=0) (vs:= [.int .i64 ((nt I k).one+sg E)]) J J J J (by rfl) (by rfl) kd.szx J J (by simp) (by rw [wZ qe 8 kf];simp only [jeP,je6];omega) ?_;refine n9 ?_
       rw [CE hIk rfl]
       refine S8 ?_
       exact j8 hL1 ((i+1,qA,qc)) ((show i+1≤n by omega)) (by simp only;omega) ⟨(by rw [hIn,Xf];rfl),vi (by omega),sz⟩ (fun _ h=>h.upto ⟨by rw [hIn,c5,Fr,Xf],trivial⟩)
 ·have hin:i=n:= (by omega)
  have hMe:M=qW s es l:= (by rw [hM,hin,←hln,jfr])
  refine S11 ?_;refine jL J (.tmp J) ?_
  intro w' hs
  exact⟨(rA,rc),by rw [hMe],hs.over.wrs.mono fun b hb=>X9.2 hb,by have:= (hs.all 0 _ rfl).1;rw [hMe] at this;exact this,fun b hb=>by have:= (hs.all 0 _ rfl).2.1 b (by rw [hMe];exact hb);exact this.elim .inr (fun h=> .inl (X9.2 h)),rfl⟩
end Go.Proofs.YtkagkgjjfdkoaaaGreat
