import Derived.Test.YtbahojdbmmjkcaaGreatMLegSort
import Derived.Test.YtbahojdbmmjkcaaGreatMNetQ
import Derived.Test.YtbahojdbmmjkcaaGreatMTopo4
set_option linter.unusedVariables false
set_option linter.unusedSimpArgs false
namespace Go.Proofs.YtbahojdbmmjkcaaGreat
open Go Go.RowKit
variable {A:Option Addr} {B i j k m n:Nat} {K:Act→World→Prop} {cs xs:List Value} {e p:Leg} {es ls:List Leg} {l:List Nt} {r x:Option Addr×Nat} {s:Bool} {v:Int} {w:World}
set_option maxRecDepth 100000
set_option maxHeartbeats 4000000
theorem Sm (p q:Pn) :0<w6 p q↔vG q p:=by
 have h1:=Uq (p.1- q.1)
 have h2:=Uq (p.2- q.2)
 unfold w6 vG
 split<;>omega
theorem Sn (p q:Pn) (hp:xe p) (hq:xe q) (W:World) :Calls Tryz.prog 112 #[pV p,pV q] W fun e w'=>e= .returned (.int .i64 (w6 p q))∧Over W w':=
 (yj p q hp hq W).mono fun e w' ⟨h,q',os',hw⟩ =>⟨h,Gy hw⟩
def DB (ls:List Leg) (k:Nat) :List Leg:= (ls.take k).map Q3
theorem Fv (h:k<ls.length) :DB ls (k+1) =DB ls k++ [Q3 (lg ls k)] :=by
 rw [DB,jjt h,ye h]
 simp [DB]
theorem jdm (h:k≤ls.length) : (DB ls k).length=k:=by
 rw [DB,jjB,jjC]
 omega
theorem jfN {l:Leg} (h:0<w6 (lA l) (lB l)) :Q3 l=⟨l.bx,l.b_y,l.ax,l.ay⟩ :=by rw [Q3,if_pos ((Sm _ _).1 h)];rfl
theorem jhC {l:Leg} (h:w6 (lA l) (lB l)≤0) :Q3 l=l:=by rw [Q3,if_neg fun k=>by have:= (Sm _ _).2 k;omega]
def Ko (es:List Leg) :List Leg:= (Qe false es []).map (·.e)
theorem jcS {m:List Leg} (hp:m.Perm (es.map Q3)) (hr:EZ m) :QS m=Ko es:=
 (jdh rfl hr fun q=>by rw [hp.mem_iff,jjx];constructor<;> (rintro⟨e,h1,h2⟩;exact⟨e,h1,h2.symm⟩)).symm
theorem jbd {g c:Nat} {xs:List Leg} (h: (J3 B 96 4 n (xs.flatMap Ji) (some ⟨g,0,none⟩,c)).P w) (hl:xs.length=n) (hx:∀p∈xs,qM p) (hn:n≤1048576) (h0:0<n) :
  Calls Tryz.prog 182 #[.slice (some ⟨g,0,none⟩) n c, .func (.func 183) #[] #[]] w fun e w'=>∃x: {ys:List Leg//ys.Perm xs∧EZ ys},e= .returned (.tuple #[])∧Wrs (J3 B 96 4 n (xs.flatMap Ji) (some ⟨g,0,none⟩,c)).F w w'∧(J3 0 96 4 n (x.1.flatMap Ji) (some ⟨g,0,none⟩,c)).P w'∧(∀b,(J3 0 96 4 n (x.1.flatMap Ji) (some ⟨g,0,none⟩,c)).F b→(J3 B 96 4 n (xs.flatMap Ji) (some ⟨g,0,none⟩,c)).F b∨w.heap.size≤b)∧(J3 0 96 4 n (x.1.flatMap Ji) (some ⟨g,0,none⟩,c)).B=0:=by
 refine(jbe h hl hx hn h0).mono ?_
 rintro e w' ⟨rfl,ys,hp,hr,hw,ho⟩
 exact⟨⟨ys,hp,hr⟩,rfl,hw.mono fun b hb=>by subst hb;rfl,ho,fun b hb=> .inl hb,rfl⟩
theorem jfK (hok:∀l∈ls,qM l) (k:Nat) :∀l∈DB ls k,qM l:=fun l hl=>by
 obtain ⟨e,he,rfl⟩ :=jjx.1 hl
 exact jdn (hok e (jj6 he))
theorem TG (A:Option Addr) (n c:Nat) (ls:List Leg) (w:World) (h:Legs w A n ls) (hok:∀l∈ls,qM l) (hn:n≤1048576) (h0:0<n) :
  Calls Tryz.prog 121 #[.slice A n c] w fun e w'=>∃v,e= .returned v∧w'.ownsRow w.heap.size 96 4 v (Ko ls).length ((Ko ls).flatMap Ji)∧Over w w':=by
 have hl:=h.1
 refine j6 (m:=33) (Tryz.func121) J J (lb J) ?_;refine S7 ?_;refine kt (T:=96) (s:=4) ?_;refine N9 ?_;refine JX (X:=Nat×Option Addr×Nat) (fun x=>x.1≤n) (fun x=>n- x.1) (fun x=> [(3, .slice x.2.1 x.1 x.2.2),(8, .int .i64 (x.1:Int))]) (kK [2,6,7]) (fun x=> [J3 (Bs.N ⟨w,[]⟩) 96 4 x.1 ((DB ls x.1).flatMap Ji) x.2]) (0,none,0) (jjo _) ⟨J,sz⟩ (fun _ h=>h) ?_
 intro⟨k,rA,rc⟩ hk L hL1
 refine v9 ?_;refine r9 ?_
 have hk:k≤n:=hk
 refine S5 ?_;refine cZ (fun c1=> ?_) (fun c1=> ?_)
 ·have hlt:k<n:=Om
  obtain ⟨eb,eo,rfl,_⟩ :=h.2 Om
  have hb1:=XF (kC hok (show k<ls.length by omega))
  refine S7 ?_;refine a9 (jl J J qI J (zB (fun w' hs=>h.over hs.fin) hlt)) ?_;refine S1 ?_;refine aL (fun b1=> ?_);refine N10 ?_;refine a9 (jM W4 J J (fun w1 hs=>Sn (lA (lg ls k)) (lB (lg ls k)) hb1.1 hb1.2 w1)) ?_;refine S2 ?_;refine cZ (fun c2=> ?_) (fun c2=> ?_)
  ·refine S7 ?_;refine Ba (k:=1) J J J J (J) (by rfl) jI.szx J ?_;refine N2 ?_;refine Bb (k:=1) J J J J (J) (by rfl) jI.szx J ?_;refine N5 ?_;refine Jy J J (KD J) J (lb J) (fun b2=> ?_);refine N1 ?_;refine JY (k:=0) J Jk qm Dc J Dc J J J (fun w' hs=>Qb hs (k:=2) J J) (by simp [Value.oneCell']) (by unfold maxLen;omega) Om (jjm _) (fun r1=> ?_);refine N8 ?_
   exact Jq hL1 ((k+1,r1)) ((show k+1≤n by omega)) (by simp only;omega) ⟨J,vi Om,sz⟩ (fun _ h=>h.upto ⟨by rw [Fv Om,jfN c2,jjv];rfl,trivial⟩)
  ·refine S6 ?_;refine Jy J J (KD J) J (lb J) (fun b3=> ?_);refine N1 ?_;refine JY (k:=0) J Jk qm Dc J Dc J J J (fun w' hs=>Qb hs (k:=2) J J) (by simp [Value.oneCell']) (by unfold maxLen;omega) Om (jjm _) (fun r2=> ?_);refine N8 ?_
   exact Jq hL1 ((k+1,r2)) ((show k+1≤n by omega)) (by simp only;omega) ⟨J,vi Om,sz⟩ (fun _ h=>h.upto ⟨by rw [Fv Om,jhC c2,jjv];rfl,trivial⟩)
 ·have hin:k=n:=by omega
  subst hin
  have hnl:=jdm (show k≤ls.length by omega)
  refine S6 ?_;refine kL (fun w hs=>wH (k:=0) J hs h0) ?_
  rintro⟨eg,rfl⟩
  refine S3 ?_;refine qN (k:=0) (X:= {ys:List Leg//ys.Perm (DB ls k)∧EZ ys}) (v:=fun _=> .tuple #[]) (r':=fun x=>J3 0 96 4 _ (x.1.flatMap Ji) (some ⟨eg,0,none⟩,rc)) Ka J J J Dc J (fun w1 hs=>jbd (hs.all 0 _ J).1 hnl (jfK hok k) hn h0) ?_
  rintro⟨ys,hperm,hris⟩
  refine N5 ?_;refine Zx (k:=0) (r':=J3 0 96 4 (QS ys).length ((QS ys).flatMap Ji) (some ⟨eg,0,none⟩,rc)) Ke J J J Dc J (fun w1 hs=>F5 (hs.all 0 _ J).1 (hperm.length_eq.trans hnl) h0 Om) (fun _ h=>h) J ?_;refine N3 ?_;refine jK J (.tmp J) ?_
  intro w' hs
  have hr:=hs.all 0 _ rfl
  have he:=jcS (show ys.Perm (ls.map Q3) by rw [DB,jjR Om] at hperm;exact hperm) hris
  exact⟨_,rfl,by rw [←he];exact vy hr.1 (fun b hb=> (hr.2.1 b hb).elim id (fun h=>by cases h)),hs.fin⟩
theorem TF (A:Option Addr) (c:Nat) (w:World) :
  Calls Tryz.prog 121 #[.slice A 0 c] w fun e w'=>e= .returned (.slice none 0 0)∧Over w w':=by
 refine j6 (m:=33) (Tryz.func121) J J (lb J) ?_;refine S16 ?_;refine qv (X:=Unit) (fun u=>True) (fun u=>0) (fun u=> [(3, .slice none 0 0),(8, .int .i64 0)]) (kK [2,6,7]) () (trivial) ⟨J,sz⟩ ?_
 intro u hu L hL1
 refine V5 ?_;refine cZ (fun c1=> ?_) (fun c1=> ?_)
 ·omega
 ·refine S8 ?_;refine a9 (jM Ka J J (fun w h=>jbb w)) ?_;refine S4 ?_;refine a9 (jM Ke J J (fun w h=>F4 w)) ?_;refine S3 ?_;refine jK J (.tmp J) ?_
  intro w' hs
  exact⟨rfl,hs.fin⟩
theorem TE (A:Option Addr) (n c:Nat) (ls:List Leg) (w:World) (h:Legs w A n ls) (hok:∀l∈ls,qM l) (hn:n≤1048576) :
  Calls Tryz.prog 121 #[.slice A n c] w fun e w'=>∃v,e= .returned v∧w'.ownsRow w.heap.size 96 4 v (Ko ls).length ((Ko ls).flatMap Ji)∧Over w w':=by
 by_cases h0:0<n
 ·exact TG A n c ls w h hok hn h0
 ·obtain rfl:n=0:=by omega
  have:ls= [] :=jjW h.1
  subst this
  refine(TF A c w).mono ?_
  rintro e w' ⟨rfl,hb⟩
  exact⟨_,rfl,⟨rfl, .inl ⟨rfl,rfl⟩⟩,hb⟩
abbrev neV (x:Ne) :Value:= .agg #[.int .i64 x.e.ax, .int .i64 x.e.ay, .int .i64 x.e.bx, .int .i64 x.e.b_y, .int .i64 x.net, .int .i64 x.left, .int .i64 x.right]
def jfT (p e:Leg) :Bool:= !decide (Q3 e=p)
def HS (es:List Leg) (p:Leg) (k:Nat) :List Leg:= (es.take k).filter (jfT p)
def IU (es:List Leg) (p:Leg) (k:Nat) :Int:=sm (fun e=>if Q3 e=p then sg e else 0) (es.take k)
theorem jfF (h:k≤es.length) : -(k:Int)≤IU es p k∧IU es p k≤k:=by
 have:=jgN (f:=fun e=>if Q3 e=p then sg e else 0) (l:=es.take k) fun e _=>by
  have:=TS e
  split<;>omega
 rw [jjC,jku h] at this
 exact this
theorem jaD (h:k<es.length) :IU es p (k+1) =IU es p k+ (if Q3 (lg es k) =p then sg (lg es k) else 0) :=by
 rw [IU,MT _ h,ye h]
 rfl
theorem jdg (es:List Leg) (p:Leg) :IU es p es.length=Qo es p:=by rw [IU,jj3];rfl
theorem jaI (h:k<es.length) :HS es p (k+1) =HS es p k++ (if Q3 (lg es k) =p then [] else [lg es k]) :=by
 rw [HS,jjt h,jkN,ye h]
 congr 1
 by_cases e:Q3 (lg es k) =p<;>simp [jfT,e]
theorem jdu (h:k≤es.length) : (HS es p k).length≤k:=by
 have:=jkZ (jfT p) (es.take k)
 rw [jjC,jku h] at this
 exact this
theorem H8 {α:Type} (q:α→Bool) (f:α→Int) :∀l:List α,sm f (l.filter q) =sm (fun e=>if q e=true then f e else 0) l
 | [] =>rfl
 | a::l=>by
  rw [List.filter_cons]
  by_cases h:q a=true
  ·rw [if_pos h]
   simp only [sm,H8 q f l,if_pos h]
  ·rw [if_neg h]
   simp only [sm,H8 q f l,if_neg h]
   omega
theorem Ln (h:Bool) (ls:List Leg) (x y:Int) :∀k,k≤ls.length→vk h ls x y k=sm (fun e=>QB (kg h e) x y) (ls.take k)
 | 0,_=>rfl
 | k+1,hk=>by rw [vk,MT _ Om,ye Om,Ln h ls x y k Om]
theorem jeB (es:List Leg) (p:Leg) :wind true (HS es p es.length) (vQ p) (vh p) =WX es p:=by
 rw [wind,Ln _ _ _ _ _ (jjm _),jj3,HS,jj3,H8]
 refine J0 fun e _=> ?_
 by_cases k:Q3 e=p<;>simp [jfT,k]
def ve (p:Pn) (E:List Leg) :Int:=sm (fun e=>QB e p.1 p.2) E
theorem jgx (h:Bool) (ls:List Leg) (x y:Int) : -(ls.length:Int)≤wind h ls x y∧wind h ls x y≤ls.length:=xd h ls x y _
theorem Yp {T:Nat} (h: (J3 B T 4 n (ls.flatMap Ji) x).P w) (hn:ls.length=n) :Legs w x.1 n ls:=by
 obtain ⟨A,c,e,h1,_⟩ :=LF h hn
 injection e with e1 e2 e3
 rw [e1]
 exact h1
theorem SD {f:Leg} : (e.ax==f.ax&&e.ay==f.ay&&e.bx==f.bx&&e.b_y==f.b_y) =decide (e=f) :=by
 rw [X6]
 exact decide_eq_decide.2 ⟨Eq.symm,Eq.symm⟩
theorem LJ (A:Option Addr) (n c:Nat) (es:List Leg) (p:Leg) (w:World) (h:Legs w A n es) (hok:∀l∈es,qM l) (hn:n≤1048576) (hp:qM p) (hne:lA p≠lB p) (hord:¬vG (lB p) (lA p)) :
  Calls Tryz.prog 122 #[.slice A n c,ji3 p] w fun e w'=>e= .returned (neV (kZ es p))∧Over w w':=by
 have hl:=h.1
 have hb: ((-262144≤p.ax∧p.ax≤262144)∧-262144≤p.ay∧p.ay≤262144)∧(-262144≤p.bx∧p.bx≤262144)∧-262144≤p.b_y∧p.b_y≤262144:=⟨⟨hp.1,hp.2.1⟩,hp.2.2.1,hp.2.2.2⟩
 refine j6 (m:=84) (Tryz.func122) J J (lb J) ?_;refine S3 ?_;refine aX (fun b1=> ?_);refine N1 ?_;refine aL (fun b2=> ?_);refine N7 ?_;refine a9 (JR J J (zS J J)) ?_;refine S1 ?_;refine aL (fun b3=> ?_);refine N6 ?_;refine kt (T:=96) (s:=4) ?_;refine N9 ?_;refine JX (X:=Nat×Option Addr×Nat) (fun x=>x.1≤n) (fun x=>n- x.1) (fun x=> [(6, .slice x.2.1 (HS es p x.1).length x.2.2),(17, .int .i64 (x.1:Int))]) (kK [3,4,5,15,16]) (fun x=> [.cel b1 96 [.int .i64 p.ax, .int .i64 p.ay, .int .i64 p.bx, .int .i64 p.b_y], .cel b2 171 [.int .i64 0, .int .i64 0, .int .i64 0, .int .i64 0, .int .i64 0, .int .i64 0, .int .i64 0], .cel b3 171 [.int .i64 p.ax, .int .i64 p.ay, .int .i64 p.bx, .int .i64 p.b_y, .int .i64 (IU es p x.1), .int .i64 0, .int .i64 0],J3 (Bs.N ⟨w,[]⟩) 96 4 (HS es p x.1).length ((HS es p x.1).flatMap Ji) x.2]) (0,none,0) (jjo _) ⟨J,sz⟩ (fun _ h=>h) ?_
 intro⟨k,rA,rc⟩ hk L hL1
 refine v9 ?_;refine r9 ?_
 have hk:k≤n:=hk
 have hnb:=jfF (p:=p) (show k≤es.length by omega)
 have hob:=jdu (p:=p) (show k≤es.length by omega)
 refine S5 ?_;refine cZ (fun c1=> ?_) (fun c1=> ?_)
 ·have hlt:k<n:=Om
  obtain ⟨eb,eo,rfl,_⟩ :=h.2 Om
  have hN:=jaD (p:=p) (show k<es.length by omega)
  have hO:=jaI (p:=p) (show k<es.length by omega)
  refine S7 ?_;refine a9 (jl J J qI J (zB (fun w' hs=>h.over hs.fin) hlt)) ?_;refine S1 ?_;refine aL (fun b4=> ?_);refine N14 ?_;refine cZ (fun c2=> ?_) (fun c2=> ?_)
  ·have he:lg es k=p:=of_decide_eq_true (SD▸c2)
   have hnp:Q3 (lg es k) =p:= (MK hord hne).2 (.inl he)
   rw [if_pos hnp,he,Ev hord] at hN
   rw [if_pos hnp,jjL] at hO
   refine S6 ?_;refine ZA (k:=2) J J J J (J) (by rfl) kY.szx J ?_;refine N8 ?_
   exact Jq hL1 ((k+1,rA,rc)) ((show k+1≤n by omega)) (by simp only;omega) ⟨(by rw [hO];rfl),vi Om,sz⟩ (fun _ h=>h.upto ⟨J,J,by rw [hN],by rw [hO],trivial⟩)
  ·have he:¬lg es k=p:=of_decide_eq_false (SD▸c2)
   refine S6 ?_;refine a9 (JR J J (yX J J)) ?_;refine S3 ?_;refine cZ (fun c3=> ?_) (fun c3=> ?_)
   ·have hr:lg es k=ku p:=of_decide_eq_true (SD (f:=ku p)▸c3)
    have hnp:Q3 (lg es k) =p:= (MK hord hne).2 (.inr hr)
    rw [if_pos hnp,hr,jd1 hord hne] at hN
    rw [if_pos hnp,jjL] at hO
    refine S6 ?_;refine ZA (k:=2) J J J J (J) (by rfl) kY.szx J ?_;refine N8 ?_
    exact Jq hL1 ((k+1,rA,rc)) ((show k+1≤n by omega)) (by simp only;omega) ⟨(by rw [hO];rfl),vi Om,sz⟩ (fun _ h=>h.upto ⟨J,J,by rw [hN];rfl,by rw [hO],trivial⟩)
   ·have hr:¬lg es k=ku p:=of_decide_eq_false (SD (f:=ku p)▸c3)
    have hnp:¬Q3 (lg es k) =p:=fun k=> ((MK hord hne).1 k).elim he hr
    rw [if_neg hnp,jk4] at hN
    rw [if_neg hnp] at hO
    refine S4 ?_;refine Jy J J (KD J) J (lb J) (fun b5=> ?_);refine N1 ?_;refine JY (k:=3) J Jk qm Dc J Dc J J J (fun w' hs=>Qb hs (k:=5) J J) (by simp [Value.oneCell']) (by unfold maxLen;omega) Om (jjm _) (fun r1=> ?_);refine N9 ?_
    exact Jq hL1 ((k+1,r1)) ((show k+1≤n by omega)) (by simp only;omega) ⟨(by rw [hO,jjk];rfl),vi Om,sz⟩ (fun _ h=>h.upto ⟨J,J,by rw [hN],by rw [hO,jjk,jjv];rfl,trivial⟩)
 ·have hin:k=n:=by omega
  subst hin
  rw [show IU es p k=Qo es p by rw [←hl,jdg]] at*
  have hw1:=jgx true (HS es p k) (vQ p) (vh p)
  have hw2:wind true (HS es p k) (vQ p) (vh p) =WX es p:=by rw [←hl,jeB]
  rw [hw2] at hw1
  have hoo:∀l∈HS es p k,qM l:=fun l hl=>hok l (jj6 ((jkc.1 hl).1))
  refine S22 ?_;refine a9 (JR J J (q8 J J)) ?_;refine a9 (jM Gl J J (fun w1 hs=>hw2▸DL rA _ rc (HS es p k) (vQ p) (vh p) true w1 (Yp (hs.all 3 _ J).1 J) Om hoo (by unfold uW vQ;omega) (by unfold uW vh;omega))) ?_;refine S13 ?_;refine cZ (fun c4=> ?_) (fun c4=> ?_)
  ·refine S8 ?_;refine ZB (k:=2) J J J J (J) (by rfl) kY.szx J ?_;refine N2 ?_;refine ZC (k:=2) J J J J (J) (by rfl) kY.szx J ?_;refine N8 ?_;refine jK J (J8 (k:=1) J wM J J) ?_
   intro w' hs
   exact⟨by rw [kZ,if_pos c4],hs.fin⟩
  ·refine S8 ?_;refine ZB (k:=2) J J J J (J) (by rfl) kY.szx J ?_;refine N2 ?_;refine ZC (k:=2) J J J J (J) (by rfl) kY.szx J ?_;refine N8 ?_;refine jK J (J8 (k:=1) J wM J J) ?_
   intro w' hs
   exact⟨by rw [kZ,if_neg c4],hs.fin⟩
theorem Legs.ovx {w':World} {X:List Nat} (h:Legs w A n ls) (ho:Ovx ⟨w,X⟩ w') (hne:0<n→∀p,A=some p→p.block∉X) :Legs w' A n ls:=by
 refine⟨h.1,fun hn=> ?_⟩
 obtain ⟨b,o,rfl,hlt,hc⟩ :=h.2 hn
 have hs:w.heap.size≤w'.heap.size:=ho.size
 have hb:w'.heap[b]? =w.heap[b]? :=ho.block b hlt (hne hn _ rfl)
 have hcell:∀o',w'.cell? ⟨b,o',none⟩ =w.cell? ⟨b,o',none⟩ :=fun o'=>by simp only [World.cell?,hb]
 exact⟨b,o,rfl,by omega,fun k hk=>by rw [hcell,hcell,hcell,hcell];exact hc k hk⟩
def jaW (x:Option Addr×Nat) :List Nat:=match x.1 with
 | some p=> [p.block]
 | none=> []
theorem HY {T s:Nat} {b:Nat} : (J3 B T s n xs x).F b↔b∈jaW x:=by
 show Value.ownBlock (.slice x.1 n x.2) =some b↔_
 unfold jaW
 cases hx:x.1 with
 | none=>simp [Value.ownBlock]
 | some p=>
  simp only [Value.ownBlock,jjp]
  constructor
  ·intro h;injection h with h;exact h.symm
  ·intro h;rw [h]
theorem Qr {w':World} {T s:Nat} (h: (J3 B T s n xs x).P w) (hO:Over w w') : (J3 B T s n xs x).P w':=
 (J3 B T s n xs x).dep w w' h hO.size fun b hb _=>hO.out.block b hb
abbrev RH (l:List Nt) (x:Option Addr×Nat) :Res:=J3 0 262 8 l.length (l.flatMap qo) x
section
variable {P:Program} {n:Nat} {env:List (Nat×Value)} {w0:Bs} {Rs:List Res} {o:Oper} {Q:Exit→Act→World→Prop} {K:Act→World→Prop}
theorem qQ {T U:TypeId} {x y:Operand} {s:Nat} (hr:∀w,St w0 Rs w→(J3 B U s m xs r).P w) (ho:o.op= .indexAddr T x y) (hx:ev env x=some (.slice r.1 m r.2)) (hy:ev env y=some (.int .i64 (j:Int))) (hT:TyL P T U s) (hj:j<m) :
  Qt P o n env w0 Rs (.pointer (some ⟨uo r.1,0+j*s,none⟩)) :=fun a w hf hs=>by
 have e:=jgb (hr w hs) Om
 rw [e] at hx
 exact jV (j:=j) ho hx hy hT hj a w hf hs
theorem IW (h:j<l.length) :l[j]? =some (nt l j) :=by rw [List.getElem?_eq_getElem h,zQ h]
theorem kH (x:Nt) : (qo x).length=8:=rfl
theorem Xj {off:Nat} {v:Value} (hr:∀w,St w0 Rs w→(J3 0 262 8 m (l.flatMap qo) r).P w) (hj:j<l.length) (he:off=j*8+i) (hv: (qo (nt l j))[i]? =some v) :∀w,St w0 Rs w→w.cell? ⟨uo r.1,off,none⟩ =some v:=fun w hs=>by
 refine GH (hr w hs) ?_
 have hi:= (List.getElem?_eq_some_iff.1 hv).1
 rw [kH] at hi
 rw [he,XV qo 8 kH l j i hj hi,zQ hj]
 exact hv
theorem xy {off:Nat} (vs:List Value) (i:Nat) (hr:∀w,St w0 Rs w→(J3 0 262 8 m (l.flatMap qo) r).P w) (hj:j<l.length) (he:off=j*8+i) (hv:∀q v,vs[q]? =some v→(qo (nt l j))[i+q]? =some v) :∀w,St w0 Rs w→∀q v,vs[q]? =some v→w.cell? ⟨uo r.1,off+q,none⟩ =some v:=fun w hs q v h=>
 Xj hr hj Om (hv q v h) w hs
end
theorem Xr {a b:Value} (h0:cs[i]? =some a) (h1:cs[i+1]? =some b) :∀q v,[a,b][q]? =some v→cs[i+q]? =some v:=fun q v h=>by
 match q,h with
 | 0,h=>simp at h;subst h;exact h0
 | 1,h=>simp at h;subst h;exact h1
theorem MF {a b c d:Value} (h0:cs[i]? =some a) (h1:cs[i+1]? =some b) (h2:cs[i+2]? =some c) (h3:cs[i+3]? =some d) :∀q v,[a,b,c,d][q]? =some v→cs[i+q]? =some v:=fun q v h=>by
 match q,h with
 | 0,h=>simp at h;subst h;exact h0
 | 1,h=>simp at h;subst h;exact h1
 | 2,h=>simp at h;subst h;exact h2
 | 3,h=>simp at h;subst h;exact h3
theorem jgO {α:Type} {f:α→Int} (h:∀x,0≤f x) :∀ {l:List α} {x:α},x∈l→f x≤sm f l
 | y::l,x,hx=>by
  have h1:=h y
  have h2:=jd6 h l
  simp only [sm]
  rcases jjw.1 hx with rfl | hx
  ·omega
  ·have:=jgO h hx;omega
theorem xL (h:k<l.length) : -aS s l≤V6 s (nt l k)∧V6 s (nt l k)≤aS s l:=by
 have h1:=jgO (f:=fun x=>xf (V6 s x)) (fun x=>It _) (Hz h)
 have h2:=CE (V6 s (nt l k))
 unfold aS
 omega
theorem RS (h:i<es.length) :Qe s (es.take (i+1)) l=WS s (lg es i) (Qe s (es.take i) l) :=by
 rw [jjt h,ye h]
 simp [Qe]
theorem uA {s:Bool} :∀(es:List Leg) (l:List Nt),(Qe s es l).length≤l.length+es.length
 | [],l=>jjm _
 | e::es,l=>by
  have h1:=uA (s:=s) es (WS s e l)
  have h2:=RU (s:=s) (e:=e) l
  have e1:Qe s (e::es) l=Qe s es (WS s e l) :=rfl
  rw [e1,jjr]
  omega
theorem jhD (hk:k≤l.length) :nt (Ho l k p) k=Zq p∧(Ho l k p).length=l.length+1:=by
 unfold Ho
 refine⟨?_,by simp;omega⟩
 rw [nt,List.getD_eq_getElem?_getD,List.getElem?_append_right (by simp;omega)]
 simp [jjC,jku hk]
theorem jaq (hk:k≤l.length) : (Ho l k p).flatMap qo= (l.flatMap qo).take (k*8) ++qo (Zq p) ++ (l.flatMap qo).drop (k*8) :=by
 have e1: (l.flatMap qo).take (k*8) = (l.take k).flatMap qo:=by
  conv=>lhs;rw [←jjA k l,jjv]
  rw [List.take_left' (by rw [W0 qo 8 kH,jjC,jku hk])]
 have e2: (l.flatMap qo).drop (k*8) = (l.drop k).flatMap qo:=by
  conv=>lhs;rw [←jjA k l,jjv]
  rw [List.drop_left' (by rw [W0 qo 8 kH,jjC,jku hk])]
 rw [e1,e2,Ho,jjv,jjH,jjq]
theorem jdp (l:List Nt) :∀u∈l.flatMap qo,u.oneCell'=true:=fun u hu=>by
 obtain ⟨x,_,hx⟩ :=jkO.1 hu
 simp only [qo,Ji,jjN,jj2,jjw,jj8,or_false] at hx
 rcases hx with rfl | rfl | rfl | rfl | rfl | rfl | rfl | rfl<;>rfl
theorem jb1 (h:k<l.length) (hv:v= (nt l k).two+sg e) :qP (l.flatMap qo) (0+k*8+5) [.int .i64 v] = (l.set k (wY true (sg e) (nt l k))).flatMap qo:=
 yk qo kH (IW h) (Ji (nt l k).e++ [.int .i64 (nt l k).one]) [.int .i64 (nt l k).two] [.int .i64 v] [.int .i64 (nt l k).l1, .int .i64 (nt l k).l2] (by simp [qo]) (by subst hv;simp [qo,wY]) rfl (by simp [Ji])
theorem jb0 (h:k<l.length) (hv:v= (nt l k).one+sg e) :qP (l.flatMap qo) (0+k*8+4) [.int .i64 v] = (l.set k (wY false (sg e) (nt l k))).flatMap qo:=
 yk qo kH (IW h) (Ji (nt l k).e) [.int .i64 (nt l k).one] [.int .i64 v] [.int .i64 (nt l k).two, .int .i64 (nt l k).l1, .int .i64 (nt l k).l2] (by simp [qo]) (by subst hv;simp [qo,wY]) rfl (by simp [Ji])
theorem GK {x:Nt} : (l.set k x).length=l.length:=jky
theorem jeN {env:List (Nat×Value)} {w0:Bs} {Rs:List Res} (k s:Nat) {b U:Nat} (hk:Rs[k]? =some (.cel b U [])) (h:At n env w0 (Rs.set k (.row 0 U s (.slice (some ⟨b,0,none⟩) 0 0) 0 [])) K) :At n env w0 Rs K:=fun a w hf hs=>by
 refine h a w hf (hs.chg hk (fun hP=> ?_) (fun c hc=> ?_) J)
 ·exact⟨by simp, .inr ⟨b,0,#[],rfl,jjo _,hP,jjm _,by unfold maxLen;omega,by simp,by simp⟩⟩
 ·have:some b=some c:=hc
  injection this with this
  exact this.symm
theorem jfx {p:Nat→Prop} (h:∀j,j<k→p j) (hk:p k) :∀j,j<k+1→p j:=fun j hj=>by
 rcases jkq (Nat.le_of_lt_succ hj) with h1 | rfl
 ·exact h j h1
 ·exact hk
theorem jhr (hk:k<m) (h2:¬vG (lA e) (lA p)) (h3: (e.ax==p.ax&&e.ay==p.ay) =true) :decide (vG (lB e) (lB p)) =decide (k<m∧xw e p) :=by
 simp only [jjl,beq_iff_eq] at h3
 refine decide_eq_decide.2 ⟨fun h=>⟨hk, .inr ⟨Prod.ext h3.1 h3.2,h⟩⟩,fun h=> ?_⟩
 rcases h.2 with h | h
 ·exact absurd h h2
 ·exact h.2
theorem jhs (h2:¬vG (lA e) (lA p)) (h3: (e.ax==p.ax&&e.ay==p.ay) =false) :false=decide (k<m∧xw e p) :=by
 refine(decide_eq_false fun h=> ?_).symm
 rcases h.2 with h | h
 ·exact h2 h
 ·rw [show e.ax=p.ax from congrArg Prod.fst h.1,show e.ay=p.ay from congrArg Prod.snd h.1] at h3
  simp at h3
theorem OQ (A:Option Addr) (n c:Nat) (es:List Leg) (s:Bool) (l:List Nt) (x:Option Addr×Nat) (w:World) (h:Legs w A n es) (hok:∀l∈es,qM l) (hn:n≤4096) (hl:l.length≤4096) (ha:∀t,aS t l≤4096) (hr: (RH l x).P w) (hne:0<n→∀p,A=some p→p.block∉jaW x) :
  Calls Tryz.prog 186 #[.slice x.1 l.length x.2, .slice A n c, .bool s] w fun e w'=>∃y:Option Addr×Nat,e= .returned (.slice y.1 (Qe s es l).length y.2)∧Wrs (RH l x).F w w'∧(RH (Qe s es l) y).P w'∧(∀b,(RH (Qe s es l) y).F b→(RH l x).F b∨w.heap.size≤b)∧(RH (Qe s es l) y).B=0:=by
 have hln:=h.1
 refine Vy (m:=119) (jaW x) (RH l x) (hr) (fun b hb=>HY.1 hb) J (Tryz.func186) J J (lb J) ?_;refine S10 ?_;refine JX (X:=Nat×Option Addr×Nat) (fun y=>y.1≤n) (fun y=>n- y.1) (fun y=> [(0, .slice y.2.1 (Qe s (es.take y.1) l).length y.2.2),(7, .int .i64 (y.1:Int))]) (kK [1,2,6]) (fun y=> [RH (Qe s (es.take y.1) l) y.2]) (0,x) (jjo _) ⟨J,sz⟩ (fun _ h=>h) ?_
 intro⟨i,rA,rc⟩ hi L hL1
 refine v9 ?_;refine r9 ?_
 have hi:i≤n:=hi
 obtain ⟨M,hM⟩ :∃M,M=Qe s (es.take i) l:=⟨_,rfl⟩
 have hMl:M.length≤8192:= (by have:=uA (s:=s) (es.take i) l;rw [jjC] at this;rw [hM];omega)
 have hMa:∀t,aS t M≤8192:= (fun t=>by have h1:=zM (s:=s) (t:=t) (es.take i) l;have h2:=ha t;rw [jjC] at h1;rw [hM];split at h1<;>omega)
 rw [←hM]
 refine S8 ?_;refine cZ (fun c1=> ?_) (fun c1=> ?_)
 ·have hlt:i<n:=Om
  obtain ⟨eb,eo,rfl,_⟩ :=h.2 Om
  obtain ⟨E,hE⟩ :∃E,E=lg es i:=⟨_,rfl⟩
  have hEo:qM E:=hE▸kC hok (show i<es.length by omega)
  have hnext:Qe s (es.take (i+1)) l=WS s E M:= (by rw [RS Om,hM,hE])
  refine S9 ?_;refine a9 (jl J J KT J (zB (fun w' hs=>h.ovx hs.over hne) hlt)) ?_;refine S1 ?_;refine aL (fun b1=> ?_);refine N3 ?_
  rw [←hE]
  refine S4 ?_;refine uB [(9, .int .i64 (sg E))] ([RH M (rA,rc), .cel b1 147 (Ji (Q3 E))]) (kK [1,2,6,0,7,12,13,14,15,18,19,20,21,8]) (fun L h_t26=> ?_) ?_
  ·refine S6 ?_;refine a9 (jM Ku J J (fun w1 hs=>WL (lB E) (lA E) w1)) ?_;refine S1 ?_;refine cZ (fun c2=> ?_) (fun c2=> ?_)
   ·refine S6 ?_;refine a9 (JR J J (uX J J)) ?_;refine S6 ?_
    exact Jo h_t26 ⟨vi (by rw [sg,if_pos c2]),sz⟩ (fun _ h=>h.upto ⟨J,by rw [Q3,if_pos c2];rfl,trivial⟩)
   ·refine S2 ?_
    exact Jo h_t26 ⟨vi (by rw [sg,if_neg c2]),sz⟩ (fun _ h=>h.upto ⟨J,by rw [Q3,if_neg c2];rfl,trivial⟩)
  ·refine v9 ?_
   obtain ⟨p,hp⟩ :∃p,p=Q3 E:=⟨_,rfl⟩
   rw [←hp]
   refine S6 ?_;refine qv (X:=Nat) (fun k=>k≤M.length∧∀j,j<k→xw (nt M j).e p) (fun k=>M.length- k) (fun k=> [(10, .int .i64 (k:Int))]) (kK [1,2,6,0,7,12,13,14,15,18,19,20,21,8,9]) 0 (⟨jjo _,fun j hj=>absurd hj Om⟩) ⟨J,sz⟩ ?_
   intro k hk L hL2
   refine v9 ?_
   obtain ⟨hkl,hkq⟩ :=hk
   refine S1 ?_;refine qt [(68, .bool (decide (k<M.length∧xw (nt M k).e p)))] (kK [1,2,6,0,7,12,13,14,15,18,19,20,21,8,9,10]) (fun L h_10=> ?_) ?_
   ·refine Gb mixed Kr (fun _ _ d _ _ h=>by cases d<;>exact h) ?_;refine x9 q9 ?_;refine x9 q9 ?_;refine x9 (JM J J JI) ?_;refine x9 (Jt J J J) ?_;refine x9 q9 ?_;refine vP 36 J (fun g1=> ?_) (fun g1=> ?_)
    ·try simp only[zz] at g1
     have hk':k<M.length:=Om
     refine y9 q9 ?_;refine y9 q9 ?_;refine y9 (qQ (j:=k) (fun w hs=> (hs.all 0 _ J).1) J J J JI hk') ?_;refine y9 (jg J J Qs) ?_;refine y9 (jg J J JD) ?_;refine y9 (jl J J jk J (xy [.int .i64 (nt M k).e.ax, .int .i64 (nt M k).e.ay] 0 (fun w hs=> (hs.all 0 _ J).1) hk' Om (Xr J J))) ?_;refine y9 (jg J J JD) ?_;refine y9 (jl J J jk J (YA (k:=1) J J J)) ?_;refine y9 (jM Ku J J (fun w1 hs=>WL (lA (nt M k).e) (lA p) w1)) ?_;refine y9 q9 ?_;refine vP 46 J (fun g2=> ?_) (fun g2=> ?_)
     ·try simp only[zz] at g2
      (iterate 10 refine z9 ?_);(iterate 9 refine qJ J J J J J Dc ?_);refine z9 ?_;refine y9 (jN J J J) ?_;refine x9 (jN J J J) ?_;refine Wx ?_;refine S1 ?_
      exact Jo h_10 ⟨vb (decide_eq_true ⟨hk', .inl g2⟩).symm,sz⟩ (u9 J)
     ·try simp only[zz] at g2
      refine y9 q9 ?_;refine y9 q9 ?_;refine y9 (qQ (j:=k) (fun w hs=> (hs.all 0 _ J).1) J J J JI hk') ?_;refine y9 (jg J J Qs) ?_;refine y9 (jg J J JD) ?_;refine y9 (jl J J jk J (xy [.int .i64 (nt M k).e.ax, .int .i64 (nt M k).e.ay] 0 (fun w hs=> (hs.all 0 _ J).1) hk' Om (Xr J J))) ?_;refine y9 (jg J J JD) ?_;refine y9 (jl J J jk J (YA (k:=1) J J J)) ?_;refine y9 (VJ J J J) ?_;refine y9 q9 ?_;refine vP 56 J (fun g3=> ?_) (fun g3=> ?_)
      ·try simp only[zz] at g3
       refine y9 q9 ?_;refine y9 q9 ?_;refine y9 (qQ (j:=k) (fun w hs=> (hs.all 0 _ J).1) J J J JI hk') ?_;refine y9 (jg J J Qs) ?_;refine y9 (jg J J JG) ?_;refine y9 (jl J J jk J (xy [.int .i64 (nt M k).e.bx, .int .i64 (nt M k).e.b_y] 2 (fun w hs=> (hs.all 0 _ J).1) hk' Om (Xr J J))) ?_;refine y9 (jg J J JG) ?_;refine y9 (jl J J jk J (YA (k:=1) J J J)) ?_;refine y9 (jM Ku J J (fun w1 hs=>WL (lB (nt M k).e) (lB p) w1)) ?_;refine y9 (jN J J J) ?_;refine y9 (jL J J J) ?_;refine x9 (jN J J J) ?_;refine Wx ?_;refine S1 ?_
       exact Jo h_10 ⟨vb (jhr hk' g2 g3),sz⟩ (u9 J)
      ·try simp only[zz] at g3
       (iterate 9 refine z9 ?_);refine y9 (jL J J J) ?_;refine y9 (jL J J J) ?_;refine x9 (jN J J J) ?_;refine Wx ?_;refine S1 ?_
       exact Jo h_10 ⟨vb (jhs g2 g3),sz⟩ (u9 J)
    ·try simp only[zz] at g1
     (iterate 10 refine z9 ?_);(iterate 20 refine qJ J J J J J Dc ?_);refine z9 ?_;refine x9 (jL J J J) ?_;refine Wx ?_;refine S1 ?_
     exact Jo h_10 ⟨vb (decide_eq_false fun h=>by omega).symm,sz⟩ (u9 J)
   ·refine v9 ?_;refine cZ (fun c3=> ?_) (fun c3=> ?_)
    ·refine S10 ?_
     exact qf hL2 (k+1) (⟨by omega,jfx hkq c3.2⟩) Om ⟨vi Om,sz⟩ (u9 J)
    ·refine S5 ?_;refine UC (X:=List Nt×Option Addr×Nat) (fun z=>k<z.1.length∧Qe s (es.take (i+1)) l=z.1.set k (wY s (sg E) (nt z.1 k))∧z.1.length≤8193∧∀t,-8192≤V6 t (nt z.1 k)∧V6 t (nt z.1 k)≤8192) (fun z=> [(0, .slice z.2.1 z.1.length z.2.2)]) (kK [1,2,6,7,12,13,14,15,18,19,20,21,8,9,10,68]) (fun z=> [RH z.1 z.2, .cel b1 147 (Ji p)]) (fun L h_t83=> ?_) ?_
     ·refine qt [(83, .bool (!decide (k<M.length∧(nt M k).e=p)))] (kK [1,2,6,0,7,12,13,14,15,18,19,20,21,8,9,10,68]) (fun L h_12=> ?_) ?_
      ·refine Gb mixed Kr (fun _ _ d _ _ h=>by cases d<;>exact h) ?_;refine x9 q9 ?_;refine x9 q9 ?_;refine x9 (JM J J JI) ?_;refine x9 (qD J J J) ?_;refine x9 q9 ?_;refine vP 75 J (fun g4=> ?_) (fun g4=> ?_)
       ·try simp only[zz] at g4
        (iterate 7 refine z9 ?_);refine x9 (jN J J J) ?_;refine Wx ?_;refine S1 ?_
        exact Jo h_12 ⟨vb (by rw [decide_eq_false (fun h=>by omega)];rfl),sz⟩ (u9 J)
       ·try simp only[zz] at g4
        refine y9 q9 ?_;refine y9 q9 ?_;refine y9 (qQ (j:=k) (fun w hs=> (hs.all 0 _ J).1) J J J JI Om) ?_;refine y9 (jg J J Qs) ?_;refine y9 (jl J J KT J (xy [.int .i64 (nt M k).e.ax, .int .i64 (nt M k).e.ay, .int .i64 (nt M k).e.bx, .int .i64 (nt M k).e.b_y] 0 (fun w hs=> (hs.all 0 _ J).1) (show k<M.length by omega) Om (MF J J J J))) ?_;refine y9 (jl J J KT J (jR (k:=1) J)) ?_;refine y9 (ZE J J J) ?_;refine x9 (jL J J J) ?_;refine Wx ?_;refine S1 ?_
        exact Jo h_12 ⟨vb (by rw [SD (e:= (nt M k).e) (f:=p)];have:k<M.length:=Om;simp [this]),sz⟩ (u9 J)
      ·refine v9 ?_;refine cZ (fun c4=> ?_) (fun c4=> ?_)
       ·have hstop:k<M.length→¬xw (nt M k).e (Q3 E)∧(nt M k).e≠Q3 E:= (fun h=>⟨fun h2=>c3 ⟨h,hp▸h2⟩,fun h2=>c4 ⟨h,hp▸h2⟩⟩)
        have hnew:Qe s (es.take (i+1)) l= (Ho M k p).set k (wY s (sg E) (nt (Ho M k p) k)) := (by rw [hnext,RW hkl (fun j hj=>hp▸hkq j hj) hstop,hp])
        obtain ⟨hnk,hnl⟩ :=jhD (p:=p) hkl
        have hsg:=TS E
        have hkI:k< (Ho M k p).length:=Om
        refine kL (fun w hs=>Uo (hs.all 0 _ J).1) ?_
        intro hcap
        refine S3 ?_;refine Jy J J (zV) J (lb J) (fun b2=> ?_);refine n9 ?_;refine jeN 2 8 J ?_;refine t9 ?_;refine S2 ?_;refine a9 (Kv J J J JI Om) ?_;refine S1 ?_;refine JY (k:=2) J JI Us Dc J Dc J J J (fun w' hs=>jbh (hs.all 0 _ J).1 hkl) ((fun u hu=>jdp M u (jj6 hu))) (by unfold maxLen;omega) Om (jjo _) (fun r1=> ?_);refine N6 ?_;refine a9 (JR J J (XJ J)) ?_;refine S1 ?_;refine Jy J J (YH J) J (lb J) (fun b3=> ?_);refine N1 ?_;refine JY (k:=2) J JI Us Dc J Dc J J J (fun w' hs=>Qb hs (k:=3) J J) (by simp [Value.oneCell']) (by unfold maxLen;omega) Om (jjo _) (fun r2=> ?_);refine N6 ?_;refine a9 (VM J J J JI hkl) ?_;refine S1 ?_;refine JY (k:=2) J JI Us Dc J Dc J J J (fun w' hs=>jbg (hs.all 0 _ J).1 hkl) ((fun u hu=>jdp M u (jkf hu))) (by unfold maxLen;omega) Om (jjo _) (fun r3=> ?_);refine N2 ?_
        rw [show 0+k+1+ (M.length- k) = (Ho M k p).length by omega]
        rw [show List.take (k*8) (List.flatMap qo M) ++ [Value.int IntKind.i64 p.ax,Value.int IntKind.i64 p.ay,Value.int IntKind.i64 p.bx,Value.int IntKind.i64 p.b_y,Value.int IntKind.i64 0,Value.int IntKind.i64 0,Value.int IntKind.i64 0,Value.int IntKind.i64 0] ++List.drop (k*8) (List.flatMap qo M) = (Ho M k p).flatMap qo from(jaq hkl).symm]
        exact ka h_t83 ((Ho M k p,r3)) (⟨hkI,hnew,by simp only;omega,fun t=>by rw [hnk];cases t<;> (show-8192≤(0:Int)∧(0:Int)≤8192;omega)⟩) ⟨rfl,sz⟩ (fun _ h=> (h.picks [2,1] Dc).upto ⟨rfl,sz⟩)
       ·have hst:k<M.length∧(nt M k).e=p:=c4
        have hold:Qe s (es.take (i+1)) l=M.set k (wY s (sg E) (nt M k)) := (by rw [hnext,RX hst.1 (fun j hj=>hp▸hkq j hj) (hp▸hst.2)])
        refine S2 ?_
        exact ka h_t83 ((M,rA,rc)) (⟨hst.1,hold,by simp only;omega,fun t=>by have h1:=xL (s:=t) hst.1;have h2:=hMa t;simp only;omega⟩) ⟨J,sz⟩ (fun _ h=>h.picks [0,1] Dc)
     ·rintro⟨I,qA,qc⟩ ⟨hIk,hIn,hIl,hIa⟩
      refine v9 ?_;refine r9 ?_
      have hIk:k<I.length:=hIk
      have hIl:I.length≤8193:=hIl
      have hIn:Qe s (es.take (i+1)) l=I.set k (wY s (sg E) (nt I k)) :=hIn
      have hsg:=TS E
      have hI1:=hIa true
      have hI2:=hIa false
      simp only [V6,if_true,jkm,if_false] at hI1 hI2
      refine S4 ?_;refine cZ (fun c5=> ?_) (fun c5=> ?_)
      ·refine S3 ?_;refine a9 (qQ (j:=k) (fun w hs=> (hs.all 0 _ J).1) J J J JI hIk) ?_;refine S1 ?_;refine a9 (jo J J ju (Xj (i:=5) (fun w hs=> (hs.all 0 _ J).1) hIk Om J)) ?_;refine S2 ?_;refine a9 (qQ (j:=k) (fun w hs=> (hs.all 0 _ J).1) J J J JI hIk) ?_;refine S2 ?_;refine UT (k:=0) (vs:= [.int .i64 ((nt I k).two+sg E)]) J J J J (by rfl) (by rfl) kY.szx J J (by simp) (by rw [W0 qo 8 kH];simp only [jjr,jjK];omega) ?_;refine n9 ?_
       rw [jb1 hIk rfl]
       refine S8 ?_
       exact Jq hL1 ((i+1,qA,qc)) ((show i+1≤n by omega)) (by simp only;omega) ⟨(by rw [hIn,GK];rfl),vi Om,sz⟩ (fun _ h=>h.upto ⟨by rw [hIn,c5,RH,GK],trivial⟩)
      ·refine S3 ?_;refine a9 (qQ (j:=k) (fun w hs=> (hs.all 0 _ J).1) J J J JI hIk) ?_;refine S1 ?_;refine a9 (jo J J ju (Xj (i:=4) (fun w hs=> (hs.all 0 _ J).1) hIk Om J)) ?_;refine S2 ?_;refine a9 (qQ (j:=k) (fun w hs=> (hs.all 0 _ J).1) J J J JI hIk) ?_;refine S2 ?_;refine UT (k:=0) (vs:= [.int .i64 ((nt I k).one+sg E)]) J J J J (by rfl) (by rfl) kY.szx J J (by simp) (by rw [W0 qo 8 kH];simp only [jjr,jjK];omega) ?_;refine n9 ?_
       rw [jb0 hIk rfl]
       refine S8 ?_
       exact Jq hL1 ((i+1,qA,qc)) ((show i+1≤n by omega)) (by simp only;omega) ⟨(by rw [hIn,GK];rfl),vi Om,sz⟩ (fun _ h=>h.upto ⟨by rw [hIn,c5,RH,GK],trivial⟩)
 ·have hin:i=n:=Om
  have hMe:M=Qe s es l:= (by rw [hM,hin,←hln,jj3])
  refine S11 ?_;refine jK J (.tmp J) ?_
  intro w' hs
  exact⟨(rA,rc),by rw [hMe],hs.over.wrs.mono fun b hb=>HY.2 hb,by have:= (hs.all 0 _ rfl).1;rw [hMe] at this;exact this,fun b hb=>by have:= (hs.all 0 _ rfl).2.1 b (by rw [hMe];exact hb);exact this.elim .inr (fun h=> .inl (HY.2 h)),rfl⟩
end Go.Proofs.YtbahojdbmmjkcaaGreat
