import Derived.Test.YtpncbbcmoiiipaaGreatMLegSort
import Derived.Test.YtpncbbcmoiiipaaGreatMNetQ
import Derived.Test.YtpncbbcmoiiipaaGreatMTopo4
set_option linter.unusedVariables false
set_option linter.unusedSimpArgs false
namespace Go.Proofs.YtpncbbcmoiiipaaGreat
open Go Go.RowKit
set_option maxRecDepth 100000
set_option maxHeartbeats 4000000
theorem RG (p q:Pn) :0<wE p q↔vh q p:=by
 have h1:=u7 (p.1- q.1)
 have h2:=u7 (p.2- q.2)
 unfold wE vh
 split<;>omega
theorem RH (p q:Pn) (hp:ZQ p) (hq:ZQ q) (W:World) :Calls Tryz.prog 166 #[pV p,pV q] W fun e w'=>e= .returned (.int .i64 (wE p q))∧Over W w':=
 (UY p q hp hq W).mono fun e w' ⟨h,q',os',hw⟩ =>⟨h,XY hw⟩
def BT (ls:List Leg) (k:Nat) :List Leg:= (ls.take k).map Q5
theorem DR {ls:List Leg} {k:Nat} (h:k<ls.length) :BT ls (k+1) =BT ls k++ [Q5 (lg ls k)] :=by
 rw [BT,jin h,Uz h]
 simp [BT]
theorem jcz {ls:List Leg} {k:Nat} (h:k≤ls.length) : (BT ls k).length=k:=by
 rw [BT,jit,jiy]
 omega
theorem je0 {l:Leg} (h:0<wE (lA l) (lB l)) :Q5 l=⟨l.bx,l.b_y,l.ax,l.ay⟩ :=by rw [Q5,if_pos ((RG _ _).1 h)];rfl
theorem jgL {l:Leg} (h:wE (lA l) (lB l)≤0) :Q5 l=l:=by rw [Q5,if_neg fun k=>by have:= (RG _ _).2 k;omega]
def KI (es:List Leg) :List Leg:= (Qd false es []).map (·.e)
theorem jb6 {es m:List Leg} (hp:m.Perm (es.map Q5)) (hr:Ed m) :QR m=KI es:=
 (jcv rfl hr fun q=>by rw [hp.mem_iff,jip];constructor<;> (rintro⟨e,h1,h2⟩;exact⟨e,h1,h2.symm⟩)).symm
theorem jaw {B g c n:Nat} {xs:List Leg} {w:World} (h: (JY B 131 4 n (xs.flatMap jZ) (some ⟨g,0,none⟩,c)).P w) (hl:xs.length=n) (hx:∀p∈xs,qN p) (hn:n≤1048576) (h0:0<n) :
  Calls Tryz.prog 222 #[.slice (some ⟨g,0,none⟩) n c, .func (.func 223) #[] #[]] w fun e w'=>∃x: {ys:List Leg//ys.Perm xs∧Ed ys},e= .returned (.tuple #[])∧Wrs (JY B 131 4 n (xs.flatMap jZ) (some ⟨g,0,none⟩,c)).F w w'∧(JY 0 131 4 n (x.1.flatMap jZ) (some ⟨g,0,none⟩,c)).P w'∧(∀b,(JY 0 131 4 n (x.1.flatMap jZ) (some ⟨g,0,none⟩,c)).F b→(JY B 131 4 n (xs.flatMap jZ) (some ⟨g,0,none⟩,c)).F b∨w.heap.size≤b)∧(JY 0 131 4 n (x.1.flatMap jZ) (some ⟨g,0,none⟩,c)).B=0:=by
 refine(jax h hl hx hn h0).mono ?_
 rintro e w' ⟨rfl,ys,hp,hr,hw,ho⟩
 exact⟨⟨ys,hp,hr⟩,rfl,hw.mono fun b hb=>by subst hb;rfl,ho,fun b hb=> .inl hb,rfl⟩
theorem jeX {ls:List Leg} (hok:∀l∈ls,qN l) (k:Nat) :∀l∈BT ls k,qN l:=fun l hl=>by
 obtain ⟨e,he,rfl⟩ :=jip.1 hl
 exact jcA (hok e (jiZ he))
theorem SV (A:Option Addr) (n c:Nat) (ls:List Leg) (w:World) (h:Legs w A n ls) (hok:∀l∈ls,qN l) (hn:n≤1048576) (h0:0<n) :
  Calls Tryz.prog 174 #[.slice A n c] w fun e w'=>∃v,e= .returned v∧w'.ownsRow w.heap.size 131 4 v (KI ls).length ((KI ls).flatMap jZ)∧Over w w':=by
 have hl:=h.1
 refine Jh (m:=33) (Tryz.func174) J J (lb J) ?_;refine S7 ?_;refine Q7 (T:=131) (s:=4) ?_;refine N9 ?_;refine JQ (X:=Nat×Option Addr×Nat) (fun x=>x.1≤n) (fun x=>n- x.1) (fun x=> [(3, .slice x.2.1 x.1 x.2.2),(8, .int .i64 (x.1:Int))]) (kK [2,6,7]) (fun x=> [JY (Bs.N ⟨w,[]⟩) 131 4 x.1 ((BT ls x.1).flatMap jZ) x.2]) (0,none,0) (jii _) ⟨J,sz⟩ (fun _ h=>h) ?_
 intro⟨k,rA,rc⟩ hk L hL1
 refine v9 ?_;refine r9 ?_
 have hk:k≤n:=hk
 refine S5 ?_;refine cZ (fun c1=> ?_) (fun c1=> ?_)
 ·have hlt:k<n:=Om
  obtain ⟨eb,eo,rfl,_⟩ :=h.2 Om
  have hb1:=x8 (QS hok (show k<ls.length by omega))
  refine S7 ?_;refine a9 (jk J J qG J (ya (fun w' hs=>h.over hs.fin) hlt)) ?_;refine S1 ?_;refine aL (fun b1=> ?_);refine N10 ?_;refine a9 (jT WK J J (fun w1 hs=>RH (lA (lg ls k)) (lB (lg ls k)) hb1.1 hb1.2 w1)) ?_;refine S2 ?_;refine cZ (fun c2=> ?_) (fun c2=> ?_)
  ·refine S7 ?_;refine Ox (k:=1) J J J J (J) (by rfl) jH.szx J ?_;refine N2 ?_;refine Oy (k:=1) J J J J (J) (by rfl) jH.szx J ?_;refine N5 ?_;refine Jx J J (Kx J) J (lb J) (fun b2=> ?_);refine N1 ?_;refine JV (k:=0) J Jf qn Dc J Dc J J J (fun w' hs=>Qb hs (k:=2) J J) (by simp [Value.oneCell']) (by unfold maxLen;omega) Om (jih _) (fun r1=> ?_);refine N8 ?_
   exact Ji hL1 ((k+1,r1)) ((show k+1≤n by omega)) (by simp only;omega) ⟨J,vi Om,sz⟩ (fun _ h=>h.upto ⟨by rw [DR Om,je0 c2,jio];rfl,trivial⟩)
  ·refine S6 ?_;refine Jx J J (Kx J) J (lb J) (fun b3=> ?_);refine N1 ?_;refine JV (k:=0) J Jf qn Dc J Dc J J J (fun w' hs=>Qb hs (k:=2) J J) (by simp [Value.oneCell']) (by unfold maxLen;omega) Om (jih _) (fun r2=> ?_);refine N8 ?_
   exact Ji hL1 ((k+1,r2)) ((show k+1≤n by omega)) (by simp only;omega) ⟨J,vi Om,sz⟩ (fun _ h=>h.upto ⟨by rw [DR Om,jgL c2,jio];rfl,trivial⟩)
 ·have hin:k=n:=by omega
  subst hin
  have hnl:=jcz (show k≤ls.length by omega)
  refine S6 ?_;refine ky (fun w hs=>VJ (k:=0) J hs h0) ?_
  rintro⟨eg,rfl⟩
  refine S3 ?_;refine qO (k:=0) (X:= {ys:List Leg//ys.Perm (BT ls k)∧Ed ys}) (v:=fun _=> .tuple #[]) (r':=fun x=>JY 0 131 4 _ (x.1.flatMap jZ) (some ⟨eg,0,none⟩,rc)) kT J J J Dc J (fun w1 hs=>jaw (hs.all 0 _ J).1 hnl (jeX hok k) hn h0) ?_
  rintro⟨ys,hperm,hris⟩
  refine N5 ?_;refine z7 (k:=0) (r':=JY 0 131 4 (QR ys).length ((QR ys).flatMap jZ) (some ⟨eg,0,none⟩,rc)) kY J J J Dc J (fun w1 hs=>Ft (hs.all 0 _ J).1 (hperm.length_eq.trans hnl) h0 Om) (fun _ h=>h) J ?_;refine N3 ?_;refine jM J (.tmp J) ?_
  intro w' hs
  have hr:=hs.all 0 _ rfl
  have he:=jb6 (show ys.Perm (ls.map Q5) by rw [BT,jiK Om] at hperm;exact hperm) hris
  exact⟨_,rfl,by rw [←he];exact vv hr.1 (fun b hb=> (hr.2.1 b hb).elim id (fun h=>by cases h)),hs.fin⟩
theorem SU (A:Option Addr) (c:Nat) (w:World) :
  Calls Tryz.prog 174 #[.slice A 0 c] w fun e w'=>e= .returned (.slice none 0 0)∧Over w w':=by
 refine Jh (m:=33) (Tryz.func174) J J (lb J) ?_;refine S16 ?_;refine qz (X:=Unit) (fun u=>True) (fun u=>0) (fun u=> [(3, .slice none 0 0),(8, .int .i64 0)]) (kK [2,6,7]) () (trivial) ⟨J,sz⟩ ?_
 intro u hu L hL1
 refine V5 ?_;refine cZ (fun c1=> ?_) (fun c1=> ?_)
 ·omega
 ·refine S8 ?_;refine a9 (jT kT J J (fun w h=>jau w)) ?_;refine S4 ?_;refine a9 (jT kY J J (fun w h=>Fs w)) ?_;refine S3 ?_;refine jM J (.tmp J) ?_
  intro w' hs
  exact⟨rfl,hs.fin⟩
theorem ST (A:Option Addr) (n c:Nat) (ls:List Leg) (w:World) (h:Legs w A n ls) (hok:∀l∈ls,qN l) (hn:n≤1048576) :
  Calls Tryz.prog 174 #[.slice A n c] w fun e w'=>∃v,e= .returned v∧w'.ownsRow w.heap.size 131 4 v (KI ls).length ((KI ls).flatMap jZ)∧Over w w':=by
 by_cases h0:0<n
 ·exact SV A n c ls w h hok hn h0
 ·obtain rfl:n=0:=by omega
  have:ls= [] :=jiQ h.1
  subst this
  refine(SU A c w).mono ?_
  rintro e w' ⟨rfl,hb⟩
  exact⟨_,rfl,⟨rfl, .inl ⟨rfl,rfl⟩⟩,hb⟩
abbrev neV (x:Ne) :Value:= .agg #[.int .i64 x.e.ax, .int .i64 x.e.ay, .int .i64 x.e.bx, .int .i64 x.e.b_y, .int .i64 x.net, .int .i64 x.left, .int .i64 x.right]
def je7 (p e:Leg) :Bool:= !decide (Q5 e=p)
def Hg (es:List Leg) (p:Leg) (k:Nat) :List Leg:= (es.take k).filter (je7 p)
def Ie (es:List Leg) (p:Leg) (k:Nat) :Int:=sm (fun e=>if Q5 e=p then sg e else 0) (es.take k)
theorem jeU {es:List Leg} {p:Leg} {k:Nat} (h:k≤es.length) : -(k:Int)≤Ie es p k∧Ie es p k≤k:=by
 have:=jf1 (f:=fun e=>if Q5 e=p then sg e else 0) (l:=es.take k) fun e _=>by
  have:=Tk e
  split<;>omega
 rw [jiy,jjm h] at this
 exact this
theorem EU {es:List Leg} {p:Leg} {k:Nat} (h:k<es.length) :Ie es p (k+1) =Ie es p k+ (if Q5 (lg es k) =p then sg (lg es k) else 0) :=by
 rw [Ie,Mr _ h,Uz h]
 rfl
theorem jcu (es:List Leg) (p:Leg) :Ie es p es.length=Qe es p:=by rw [Ie,jiX];rfl
theorem EZ {es:List Leg} {p:Leg} {k:Nat} (h:k<es.length) :Hg es p (k+1) =Hg es p k++ (if Q5 (lg es k) =p then [] else [lg es k]) :=by
 rw [Hg,jin h,jjT,Uz h]
 congr 1
 by_cases e:Q5 (lg es k) =p<;>simp [je7,e]
theorem jcH {es:List Leg} {p:Leg} {k:Nat} (h:k≤es.length) : (Hg es p k).length≤k:=by
 have:=jjV (je7 p) (es.take k)
 rw [jiy,jjm h] at this
 exact this
theorem Hy {α:Type} (q:α→Bool) (f:α→Int) :∀l:List α,sm f (l.filter q) =sm (fun e=>if q e=true then f e else 0) l
 | [] =>rfl
 | a::l=>by
  rw [jj9]
  by_cases h:q a=true
  ·rw [if_pos h]
   simp only [sm,Hy q f l,if_pos h]
  ·rw [if_neg h]
   simp only [sm,Hy q f l,if_neg h]
   omega
theorem HL (h:Bool) (ls:List Leg) (x y:Int) :∀k,k≤ls.length→vk h ls x y k=sm (fun e=>Qw (Q2 h e) x y) (ls.take k)
 | 0,_=>rfl
 | k+1,hk=>by rw [vk,Mr _ Om,Uz Om,HL h ls x y k Om]
theorem jdP (es:List Leg) (p:Leg) :wind true (Hg es p es.length) (vC p) (KU p) =wy es p:=by
 rw [wind,HL _ _ _ _ _ (jih _),jiX,Hg,jiX,Hy]
 refine JW fun e _=> ?_
 by_cases k:Q5 e=p<;>simp [je7,k]
def xW (p:Pn) (E:List Leg) :Int:=sm (fun e=>Qw e p.1 p.2) E
theorem jfI (h:Bool) (ls:List Leg) (x y:Int) : -(ls.length:Int)≤wind h ls x y∧wind h ls x y≤ls.length:=ZP h ls x y _
theorem y3 {w:World} {B T n:Nat} {x:Option Addr×Nat} {ls:List Leg} (h: (JY B T 4 n (ls.flatMap jZ) x).P w) (hn:ls.length=n) :Legs w x.1 n ls:=by
 obtain ⟨A,c,e,h1,_⟩ :=Lc h hn
 injection e with e1 e2 e3
 rw [e1]
 exact h1
theorem RU {e f:Leg} : (e.ax==f.ax&&e.ay==f.ay&&e.bx==f.bx&&e.b_y==f.b_y) =decide (e=f) :=by
 rw [Xx]
 exact decide_eq_decide.2 ⟨Eq.symm,Eq.symm⟩
theorem Lg (A:Option Addr) (n c:Nat) (es:List Leg) (p:Leg) (w:World) (h:Legs w A n es) (hok:∀l∈es,qN l) (hn:n≤1048576) (hp:qN p) (hne:lA p≠lB p) (hord:¬vh (lB p) (lA p)) :
  Calls Tryz.prog 175 #[.slice A n c,jh0 p] w fun e w'=>e= .returned (neV (kX es p))∧Over w w':=by
 have hl:=h.1
 have hb: ((-262144≤p.ax∧p.ax≤262144)∧-262144≤p.ay∧p.ay≤262144)∧(-262144≤p.bx∧p.bx≤262144)∧-262144≤p.b_y∧p.b_y≤262144:=⟨⟨hp.1,hp.2.1⟩,hp.2.2.1,hp.2.2.2⟩
 refine Jh (m:=84) (Tryz.func175) J J (lb J) ?_;refine S3 ?_;refine aX (fun b1=> ?_);refine N1 ?_;refine aL (fun b2=> ?_);refine N7 ?_;refine a9 (JU J J (zy J J)) ?_;refine S1 ?_;refine aL (fun b3=> ?_);refine N6 ?_;refine Q7 (T:=131) (s:=4) ?_;refine N9 ?_;refine JQ (X:=Nat×Option Addr×Nat) (fun x=>x.1≤n) (fun x=>n- x.1) (fun x=> [(6, .slice x.2.1 (Hg es p x.1).length x.2.2),(17, .int .i64 (x.1:Int))]) (kK [3,4,5,15,16]) (fun x=> [.cel b1 131 [.int .i64 p.ax, .int .i64 p.ay, .int .i64 p.bx, .int .i64 p.b_y], .cel b2 203 [.int .i64 0, .int .i64 0, .int .i64 0, .int .i64 0, .int .i64 0, .int .i64 0, .int .i64 0], .cel b3 203 [.int .i64 p.ax, .int .i64 p.ay, .int .i64 p.bx, .int .i64 p.b_y, .int .i64 (Ie es p x.1), .int .i64 0, .int .i64 0],JY (Bs.N ⟨w,[]⟩) 131 4 (Hg es p x.1).length ((Hg es p x.1).flatMap jZ) x.2]) (0,none,0) (jii _) ⟨J,sz⟩ (fun _ h=>h) ?_
 intro⟨k,rA,rc⟩ hk L hL1
 refine v9 ?_;refine r9 ?_
 have hk:k≤n:=hk
 have hnb:=jeU (p:=p) (show k≤es.length by omega)
 have hob:=jcH (p:=p) (show k≤es.length by omega)
 refine S5 ?_;refine cZ (fun c1=> ?_) (fun c1=> ?_)
 ·have hlt:k<n:=Om
  obtain ⟨eb,eo,rfl,_⟩ :=h.2 Om
  have hN:=EU (p:=p) (show k<es.length by omega)
  have hO:=EZ (p:=p) (show k<es.length by omega)
  refine S7 ?_;refine a9 (jk J J qG J (ya (fun w' hs=>h.over hs.fin) hlt)) ?_;refine S1 ?_;refine aL (fun b4=> ?_);refine N14 ?_;refine cZ (fun c2=> ?_) (fun c2=> ?_)
  ·have he:lg es k=p:=of_decide_eq_true (RU▸c2)
   have hnp:Q5 (lg es k) =p:= (Mj hord hne).2 (.inl he)
   rw [if_pos hnp,he,CI hord] at hN
   rw [if_pos hnp,jiG] at hO
   refine S6 ?_;refine Zb (k:=2) J J J J (J) (by rfl) kS.szx J ?_;refine N8 ?_
   exact Ji hL1 ((k+1,rA,rc)) ((show k+1≤n by omega)) (by simp only;omega) ⟨(by rw [hO];rfl),vi Om,sz⟩ (fun _ h=>h.upto ⟨J,J,by rw [hN],by rw [hO],trivial⟩)
  ·have he:¬lg es k=p:=of_decide_eq_false (RU▸c2)
   refine S6 ?_;refine a9 (JU J J (yD J J)) ?_;refine S3 ?_;refine cZ (fun c3=> ?_) (fun c3=> ?_)
   ·have hr:lg es k=Qn p:=of_decide_eq_true (RU (f:=Qn p)▸c3)
    have hnp:Q5 (lg es k) =p:= (Mj hord hne).2 (.inr hr)
    rw [if_pos hnp,hr,jdh hord hne] at hN
    rw [if_pos hnp,jiG] at hO
    refine S6 ?_;refine Zb (k:=2) J J J J (J) (by rfl) kS.szx J ?_;refine N8 ?_
    exact Ji hL1 ((k+1,rA,rc)) ((show k+1≤n by omega)) (by simp only;omega) ⟨(by rw [hO];rfl),vi Om,sz⟩ (fun _ h=>h.upto ⟨J,J,by rw [hN];rfl,by rw [hO],trivial⟩)
   ·have hr:¬lg es k=Qn p:=of_decide_eq_false (RU (f:=Qn p)▸c3)
    have hnp:¬Q5 (lg es k) =p:=fun k=> ((Mj hord hne).1 k).elim he hr
    rw [if_neg hnp,jj0] at hN
    rw [if_neg hnp] at hO
    refine S4 ?_;refine Jx J J (Kx J) J (lb J) (fun b5=> ?_);refine N1 ?_;refine JV (k:=3) J Jf qn Dc J Dc J J J (fun w' hs=>Qb hs (k:=5) J J) (by simp [Value.oneCell']) (by unfold maxLen;omega) Om (jih _) (fun r1=> ?_);refine N9 ?_
    exact Ji hL1 ((k+1,r1)) ((show k+1≤n by omega)) (by simp only;omega) ⟨(by rw [hO,jif];rfl),vi Om,sz⟩ (fun _ h=>h.upto ⟨J,J,by rw [hN],by rw [hO,jif,jio];rfl,trivial⟩)
 ·have hin:k=n:=by omega
  subst hin
  rw [show Ie es p k=Qe es p by rw [←hl,jcu]] at*
  have hw1:=jfI true (Hg es p k) (vC p) (KU p)
  have hw2:wind true (Hg es p k) (vC p) (KU p) =wy es p:=by rw [←hl,jdP]
  rw [hw2] at hw1
  have hoo:∀l∈Hg es p k,qN l:=fun l hl=>hok l (jiZ ((ji6.1 hl).1))
  refine S22 ?_;refine a9 (JU J J (q8 J J)) ?_;refine a9 (jT XM J J (fun w1 hs=>hw2▸B8 rA _ rc (Hg es p k) (vC p) (KU p) true w1 (y3 (hs.all 3 _ J).1 J) Om hoo (by unfold uB vC;omega) (by unfold uB KU;omega))) ?_;refine S13 ?_;refine cZ (fun c4=> ?_) (fun c4=> ?_)
  ·refine S8 ?_;refine Zc (k:=2) J J J J (J) (by rfl) kS.szx J ?_;refine N2 ?_;refine Zd (k:=2) J J J J (J) (by rfl) kS.szx J ?_;refine N8 ?_;refine jM J (qh (k:=1) J wn J J) ?_
   intro w' hs
   exact⟨by rw [kX,if_pos c4],hs.fin⟩
  ·refine S8 ?_;refine Zc (k:=2) J J J J (J) (by rfl) kS.szx J ?_;refine N2 ?_;refine Zd (k:=2) J J J J (J) (by rfl) kS.szx J ?_;refine N8 ?_;refine jM J (qh (k:=1) J wn J J) ?_
   intro w' hs
   exact⟨by rw [kX,if_neg c4],hs.fin⟩
theorem Legs.ovx {w w':World} {X:List Nat} {A:Option Addr} {n:Nat} {ls:List Leg} (h:Legs w A n ls) (ho:Ovx ⟨w,X⟩ w') (hne:0<n→∀p,A=some p→p.block∉X) :Legs w' A n ls:=by
 refine⟨h.1,fun hn=> ?_⟩
 obtain ⟨b,o,rfl,hlt,hc⟩ :=h.2 hn
 have hs:w.heap.size≤w'.heap.size:=ho.size
 have hb:w'.heap[b]? =w.heap[b]? :=ho.block b hlt (hne hn _ rfl)
 have hcell:∀o',w'.cell? ⟨b,o',none⟩ =w.cell? ⟨b,o',none⟩ :=fun o'=>by simp only [World.cell?,hb]
 exact⟨b,o,rfl,by omega,fun k hk=>by rw [hcell,hcell,hcell,hcell];exact hc k hk⟩
def jag (x:Option Addr×Nat) :List Nat:=match x.1 with
 | some p=> [p.block]
 | none=> []
theorem Hm {B T s n:Nat} {xs:List Value} {x:Option Addr×Nat} {b:Nat} : (JY B T s n xs x).F b↔b∈jag x:=by
 show Value.ownBlock (.slice x.1 n x.2) =some b↔_
 unfold jag
 cases hx:x.1 with
 | none=>simp [Value.ownBlock]
 | some p=>
  simp only [Value.ownBlock,jik]
  constructor
  ·intro h;injection h with h;exact h.symm
  ·intro h;rw [h]
theorem Qp {w w':World} {B T s n:Nat} {xs:List Value} {x:Option Addr×Nat} (h: (JY B T s n xs x).P w) (hO:Over w w') : (JY B T s n xs x).P w':=
 (JY B T s n xs x).dep w w' h hO.size fun b hb _=>hO.out.block b hb
abbrev I5 (l:List Nt) (x:Option Addr×Nat) :Res:=JY 0 212 8 l.length (l.flatMap qq) x
section
variable {P:Program} {n:Nat} {env:List (Nat×Value)} {w0:Bs} {Rs:List Res} {o:Oper} {Q:Exit→Act→World→Prop} {K:Act→World→Prop}
theorem qQ {T U:TypeId} {x y:Operand} {B m j s:Nat} {xs:List Value} {r:Option Addr×Nat} (hr:∀w,St w0 Rs w→(JY B U s m xs r).P w) (ho:o.op= .indexAddr T x y) (hx:ev env x=some (.slice r.1 m r.2)) (hy:ev env y=some (.int .i64 (j:Int))) (hT:TyL P T U s) (hj:j<m) :
  Qt P o n env w0 Rs (.pointer (some ⟨W3 r.1,0+j*s,none⟩)) :=fun a w hf hs=>by
 have e:=jfm (hr w hs) Om
 rw [e] at hx
 exact jN (j:=j) ho hx hy hT hj a w hf hs
theorem Ih {l:List Nt} {j:Nat} (h:j<l.length) :l[j]? =some (nt l j) :=by rw [List.getElem?_eq_getElem h,zw h]
theorem kE (x:Nt) : (qq x).length=8:=rfl
theorem xJ {m:Nat} {l:List Nt} {r:Option Addr×Nat} {j off i:Nat} {v:Value} (hr:∀w,St w0 Rs w→(JY 0 212 8 m (l.flatMap qq) r).P w) (hj:j<l.length) (he:off=j*8+i) (hv: (qq (nt l j))[i]? =some v) :∀w,St w0 Rs w→w.cell? ⟨W3 r.1,off,none⟩ =some v:=fun w hs=>by
 refine X5 (hr w hs) ?_
 have hi:= (List.getElem?_eq_some_iff.1 hv).1
 rw [kE] at hi
 rw [he,Xo qq 8 kE l j i hj hi,zw hj]
 exact hv
theorem Z5 {m:Nat} {l:List Nt} {r:Option Addr×Nat} {j off:Nat} (vs:List Value) (i:Nat) (hr:∀w,St w0 Rs w→(JY 0 212 8 m (l.flatMap qq) r).P w) (hj:j<l.length) (he:off=j*8+i) (hv:∀q v,vs[q]? =some v→(qq (nt l j))[i+q]? =some v) :∀w,St w0 Rs w→∀q v,vs[q]? =some v→w.cell? ⟨W3 r.1,off+q,none⟩ =some v:=fun w hs q v h=>
 xJ hr hj Om (hv q v h) w hs
end
theorem xS {a b:Value} {cs:List Value} {i:Nat} (h0:cs[i]? =some a) (h1:cs[i+1]? =some b) :∀q v,[a,b][q]? =some v→cs[i+q]? =some v:=fun q v h=>by
 match q,h with
 | 0,h=>simp at h;subst h;exact h0
 | 1,h=>simp at h;subst h;exact h1
theorem Me {a b c d:Value} {cs:List Value} {i:Nat} (h0:cs[i]? =some a) (h1:cs[i+1]? =some b) (h2:cs[i+2]? =some c) (h3:cs[i+3]? =some d) :∀q v,[a,b,c,d][q]? =some v→cs[i+q]? =some v:=fun q v h=>by
 match q,h with
 | 0,h=>simp at h;subst h;exact h0
 | 1,h=>simp at h;subst h;exact h1
 | 2,h=>simp at h;subst h;exact h2
 | 3,h=>simp at h;subst h;exact h3
theorem jf2 {α:Type} {f:α→Int} (h:∀x,0≤f x) :∀ {l:List α} {x:α},x∈l→f x≤sm f l
 | y::l,x,hx=>by
  have h1:=h y
  have h2:=jdl h l
  simp only [sm]
  rcases jir.1 hx with rfl | hx
  ·omega
  ·have:=jf2 h hx;omega
theorem xj {s:Bool} {l:List Nt} {k:Nat} (h:k<l.length) : -aS s l≤VP s (nt l k)∧VP s (nt l k)≤aS s l:=by
 have h1:=jf2 (f:=fun x=>ZR (VP s x)) (fun x=>FQ _) (GZ h)
 have h2:=PO (VP s (nt l k))
 unfold aS
 omega
theorem Rh {s:Bool} {es:List Leg} {l:List Nt} {i:Nat} (h:i<es.length) :Qd s (es.take (i+1)) l=WC s (lg es i) (Qd s (es.take i) l) :=by
 rw [jin h,Uz h]
 simp [Qd]
theorem ue {s:Bool} :∀(es:List Leg) (l:List Nt),(Qd s es l).length≤l.length+es.length
 | [],l=>jih _
 | e::es,l=>by
  have h1:=ue (s:=s) es (WC s e l)
  have h2:=Rj (s:=s) (e:=e) l
  have e1:Qd s (e::es) l=Qd s es (WC s e l) :=rfl
  rw [e1,jim]
  omega
theorem jgM {l:List Nt} {k:Nat} {p:Leg} (hk:k≤l.length) :nt (GQ l k p) k=zX p∧(GQ l k p).length=l.length+1:=by
 unfold GQ
 refine⟨?_,by simp;omega⟩
 rw [nt,List.getD_eq_getElem?_getD,List.getElem?_append_right (by simp;omega)]
 simp [jiy,jjm hk]
theorem EG {l:List Nt} {k:Nat} {p:Leg} (hk:k≤l.length) : (GQ l k p).flatMap qq= (l.flatMap qq).take (k*8) ++qq (zX p) ++ (l.flatMap qq).drop (k*8) :=by
 have e1: (l.flatMap qq).take (k*8) = (l.take k).flatMap qq:=by
  conv=>lhs;rw [←jiw k l,jio]
  rw [List.take_left' (by rw [WG qq 8 kE,jiy,jjm hk])]
 have e2: (l.flatMap qq).drop (k*8) = (l.drop k).flatMap qq:=by
  conv=>lhs;rw [←jiw k l,jio]
  rw [List.drop_left' (by rw [WG qq 8 kE,jiy,jjm hk])]
 rw [e1,e2,GQ,jio,jiB,jil]
theorem jcC (l:List Nt) :∀u∈l.flatMap qq,u.oneCell'=true:=fun u hu=>by
 obtain ⟨x,_,hx⟩ :=jjL.1 hu
 simp only [qq,jZ,jiJ,jiW,jir,ji3,or_false] at hx
 rcases hx with rfl | rfl | rfl | rfl | rfl | rfl | rfl | rfl<;>rfl
theorem jbi {l:List Nt} {k:Nat} {e:Leg} (h:k<l.length) {v:Int} (hv:v= (nt l k).two+sg e) :qP (l.flatMap qq) (0+k*8+5) [.int .i64 v] = (l.set k (wC true (sg e) (nt l k))).flatMap qq:=
 UZ qq kE (Ih h) (jZ (nt l k).e++ [.int .i64 (nt l k).one]) [.int .i64 (nt l k).two] [.int .i64 v] [.int .i64 (nt l k).l1, .int .i64 (nt l k).l2] (by simp [qq]) (by subst hv;simp [qq,wC]) rfl (by simp [jZ])
theorem jbh {l:List Nt} {k:Nat} {e:Leg} (h:k<l.length) {v:Int} (hv:v= (nt l k).one+sg e) :qP (l.flatMap qq) (0+k*8+4) [.int .i64 v] = (l.set k (wC false (sg e) (nt l k))).flatMap qq:=
 UZ qq kE (Ih h) (jZ (nt l k).e) [.int .i64 (nt l k).one] [.int .i64 v] [.int .i64 (nt l k).two, .int .i64 (nt l k).l1, .int .i64 (nt l k).l2] (by simp [qq]) (by subst hv;simp [qq,wC]) rfl (by simp [jZ])
theorem X7 {l:List Nt} {k:Nat} {x:Nt} : (l.set k x).length=l.length:=jjv
theorem jdZ {n:Nat} {env:List (Nat×Value)} {w0:Bs} {Rs:List Res} {K:Act→World→Prop} (k s:Nat) {b U:Nat} (hk:Rs[k]? =some (.cel b U [])) (h:At n env w0 (Rs.set k (.row 0 U s (.slice (some ⟨b,0,none⟩) 0 0) 0 [])) K) :At n env w0 Rs K:=fun a w hf hs=>by
 refine h a w hf (hs.chg hk (fun hP=> ?_) (fun c hc=> ?_) J)
 ·exact⟨by simp, .inr ⟨b,0,#[],rfl,jii _,hP,jih _,by unfold maxLen;omega,by simp,by simp⟩⟩
 ·have:some b=some c:=hc
  injection this with this
  exact this.symm
theorem jeM {p:Nat→Prop} {k:Nat} (h:∀j,j<k→p j) (hk:p k) :∀j,j<k+1→p j:=fun j hj=>by
 rcases jjp (Nat.le_of_lt_succ hj) with h1 | rfl
 ·exact h j h1
 ·exact hk
theorem jgC {k m:Nat} {e p:Leg} (hk:k<m) (h2:¬vh (lA e) (lA p)) (h3: (e.ax==p.ax&&e.ay==p.ay) =true) :decide (vh (lB e) (lB p)) =decide (k<m∧Z4 e p) :=by
 simp only [jig,beq_iff_eq] at h3
 refine decide_eq_decide.2 ⟨fun h=>⟨hk, .inr ⟨Prod.ext h3.1 h3.2,h⟩⟩,fun h=> ?_⟩
 rcases h.2 with h | h
 ·exact absurd h h2
 ·exact h.2
theorem jgD {k m:Nat} {e p:Leg} (h2:¬vh (lA e) (lA p)) (h3: (e.ax==p.ax&&e.ay==p.ay) =false) :false=decide (k<m∧Z4 e p) :=by
 refine(decide_eq_false fun h=> ?_).symm
 rcases h.2 with h | h
 ·exact h2 h
 ·rw [show e.ax=p.ax from congrArg Prod.fst h.1,show e.ay=p.ay from congrArg Prod.snd h.1] at h3
  simp at h3
theorem Oa (A:Option Addr) (n c:Nat) (es:List Leg) (s:Bool) (l:List Nt) (x:Option Addr×Nat) (w:World) (h:Legs w A n es) (hok:∀l∈es,qN l) (hn:n≤4096) (hl:l.length≤4096) (ha:∀t,aS t l≤4096)
  (hr: (I5 l x).P w) (hne:0<n→∀p,A=some p→p.block∉jag x) :
  Calls Tryz.prog 137 #[.slice x.1 l.length x.2, .slice A n c, .bool s] w fun e w'=>∃y:Option Addr×Nat,e= .returned (.slice y.1 (Qd s es l).length y.2)∧Wrs (I5 l x).F w w'∧(I5 (Qd s es l) y).P w'∧(∀b,(I5 (Qd s es l) y).F b→(I5 l x).F b∨w.heap.size≤b)∧(I5 (Qd s es l) y).B=0:=by
 have hln:=h.1
 refine Vp (m:=119) (jag x) (I5 l x) (hr) (fun b hb=>Hm.1 hb) J (Tryz.func137) J J (lb J) ?_;refine S10 ?_;refine JQ (X:=Nat×Option Addr×Nat) (fun y=>y.1≤n) (fun y=>n- y.1) (fun y=> [(0, .slice y.2.1 (Qd s (es.take y.1) l).length y.2.2),(7, .int .i64 (y.1:Int))]) (kK [1,2,6]) (fun y=> [I5 (Qd s (es.take y.1) l) y.2]) (0,x) (jii _) ⟨J,sz⟩ (fun _ h=>h) ?_
 intro⟨i,rA,rc⟩ hi L hL1
 refine v9 ?_;refine r9 ?_
 have hi:i≤n:=hi
 obtain ⟨M,hM⟩ :∃M,M=Qd s (es.take i) l:=⟨_,rfl⟩
 have hMl:M.length≤8192:= (by have:=ue (s:=s) (es.take i) l;rw [jiy] at this;rw [hM];omega)
 have hMa:∀t,aS t M≤8192:= (fun t=>by have h1:=zp (s:=s) (t:=t) (es.take i) l;have h2:=ha t;rw [jiy] at h1;rw [hM];split at h1<;>omega)
 rw [←hM]
 refine S8 ?_;refine cZ (fun c1=> ?_) (fun c1=> ?_)
 ·have hlt:i<n:=Om
  obtain ⟨eb,eo,rfl,_⟩ :=h.2 Om
  obtain ⟨E,hE⟩ :∃E,E=lg es i:=⟨_,rfl⟩
  have hEo:qN E:=hE▸QS hok (show i<es.length by omega)
  have hnext:Qd s (es.take (i+1)) l=WC s E M:= (by rw [Rh Om,hM,hE])
  refine S9 ?_;refine a9 (jk J J KQ J (ya (fun w' hs=>h.ovx hs.over hne) hlt)) ?_;refine S1 ?_;refine aL (fun b1=> ?_);refine N3 ?_
  rw [←hE]
  refine S4 ?_;refine uf [(9, .int .i64 (sg E))] ([I5 M (rA,rc), .cel b1 120 (jZ (Q5 E))]) (kK [1,2,6,0,7,12,13,14,15,18,19,20,21,8]) (fun L h_t26=> ?_) ?_
  ·refine S6 ?_;refine a9 (jT Kj J J (fun w1 hs=>Ws (lB E) (lA E) w1)) ?_;refine S1 ?_;refine cZ (fun c2=> ?_) (fun c2=> ?_)
   ·refine S6 ?_;refine a9 (JU J J (uC J J)) ?_;refine S6 ?_
    exact Jk h_t26 ⟨vi (by rw [sg,if_pos c2]),sz⟩ (fun _ h=>h.upto ⟨J,by rw [Q5,if_pos c2];rfl,trivial⟩)
   ·refine S2 ?_
    exact Jk h_t26 ⟨vi (by rw [sg,if_neg c2]),sz⟩ (fun _ h=>h.upto ⟨J,by rw [Q5,if_neg c2];rfl,trivial⟩)
  ·refine v9 ?_
   obtain ⟨p,hp⟩ :∃p,p=Q5 E:=⟨_,rfl⟩
   rw [←hp]
   refine S6 ?_;refine qz (X:=Nat) (fun k=>k≤M.length∧∀j,j<k→Z4 (nt M j).e p) (fun k=>M.length- k) (fun k=> [(10, .int .i64 (k:Int))]) (kK [1,2,6,0,7,12,13,14,15,18,19,20,21,8,9]) 0 (⟨jii _,fun j hj=>absurd hj Om⟩) ⟨J,sz⟩ ?_
   intro k hk L hL2
   refine v9 ?_
   obtain ⟨hkl,hkq⟩ :=hk
   refine S1 ?_;refine qt [(68, .bool (decide (k<M.length∧Z4 (nt M k).e p)))] (kK [1,2,6,0,7,12,13,14,15,18,19,20,21,8,9,10]) (fun L h_10=> ?_) ?_
   ·refine yP mixed Kr (fun _ _ d _ _ h=>by cases d<;>exact h) ?_;refine x9 q9 ?_;refine x9 q9 ?_;refine x9 (JN J J JH) ?_;refine x9 (Ju J J J) ?_;refine x9 q9 ?_;refine Q0 36 J (fun g1=> ?_) (fun g1=> ?_)
    ·try simp only[zz] at g1
     have hk':k<M.length:=Om
     refine y9 q9 ?_;refine y9 q9 ?_;refine y9 (qQ (j:=k) (fun w hs=> (hs.all 0 _ J).1) J J J JH hk') ?_;refine y9 (jf J J Qq) ?_;refine y9 (jf J J Jl) ?_;refine y9 (jk J J jj J (Z5 [.int .i64 (nt M k).e.ax, .int .i64 (nt M k).e.ay] 0 (fun w hs=> (hs.all 0 _ J).1) hk' Om (xS J J))) ?_;refine y9 (jf J J Jl) ?_;refine y9 (jk J J jj J (Yg (k:=1) J J J)) ?_;refine y9 (jT Kj J J (fun w1 hs=>Ws (lA (nt M k).e) (lA p) w1)) ?_;refine y9 q9 ?_;refine Q0 46 J (fun g2=> ?_) (fun g2=> ?_)
     ·try simp only[zz] at g2
      (iterate 10 refine z9 ?_);(iterate 9 refine qm J J J J J Dc ?_);refine z9 ?_;refine y9 (jW J J J) ?_;refine x9 (jW J J J) ?_;refine KC ?_;refine S1 ?_
      exact Jk h_10 ⟨vb (decide_eq_true ⟨hk', .inl g2⟩).symm,sz⟩ (u9 J)
     ·try simp only[zz] at g2
      refine y9 q9 ?_;refine y9 q9 ?_;refine y9 (qQ (j:=k) (fun w hs=> (hs.all 0 _ J).1) J J J JH hk') ?_;refine y9 (jf J J Qq) ?_;refine y9 (jf J J Jl) ?_;refine y9 (jk J J jj J (Z5 [.int .i64 (nt M k).e.ax, .int .i64 (nt M k).e.ay] 0 (fun w hs=> (hs.all 0 _ J).1) hk' Om (xS J J))) ?_;refine y9 (jf J J Jl) ?_;refine y9 (jk J J jj J (Yg (k:=1) J J J)) ?_;refine y9 (Qv J J J) ?_;refine y9 q9 ?_;refine Q0 56 J (fun g3=> ?_) (fun g3=> ?_)
      ·try simp only[zz] at g3
       refine y9 q9 ?_;refine y9 q9 ?_;refine y9 (qQ (j:=k) (fun w hs=> (hs.all 0 _ J).1) J J J JH hk') ?_;refine y9 (jf J J Qq) ?_;refine y9 (jf J J Jp) ?_;refine y9 (jk J J jj J (Z5 [.int .i64 (nt M k).e.bx, .int .i64 (nt M k).e.b_y] 2 (fun w hs=> (hs.all 0 _ J).1) hk' Om (xS J J))) ?_;refine y9 (jf J J Jp) ?_;refine y9 (jk J J jj J (Yg (k:=1) J J J)) ?_;refine y9 (jT Kj J J (fun w1 hs=>Ws (lB (nt M k).e) (lB p) w1)) ?_;refine y9 (jW J J J) ?_;refine y9 (jL J J J) ?_;refine x9 (jW J J J) ?_;refine KC ?_;refine S1 ?_
       exact Jk h_10 ⟨vb (jgC hk' g2 g3),sz⟩ (u9 J)
      ·try simp only[zz] at g3
       (iterate 9 refine z9 ?_);refine y9 (jL J J J) ?_;refine y9 (jL J J J) ?_;refine x9 (jW J J J) ?_;refine KC ?_;refine S1 ?_
       exact Jk h_10 ⟨vb (jgD g2 g3),sz⟩ (u9 J)
    ·try simp only[zz] at g1
     (iterate 10 refine z9 ?_);(iterate 20 refine qm J J J J J Dc ?_);refine z9 ?_;refine x9 (jL J J J) ?_;refine KC ?_;refine S1 ?_
     exact Jk h_10 ⟨vb (decide_eq_false fun h=>by omega).symm,sz⟩ (u9 J)
   ·refine v9 ?_;refine cZ (fun c3=> ?_) (fun c3=> ?_)
    ·refine S10 ?_
     exact qi hL2 (k+1) (⟨by omega,jeM hkq c3.2⟩) Om ⟨vi Om,sz⟩ (u9 J)
    ·refine S5 ?_;refine Ul (X:=List Nt×Option Addr×Nat) (fun z=>k<z.1.length∧Qd s (es.take (i+1)) l=z.1.set k (wC s (sg E) (nt z.1 k))∧z.1.length≤8193∧∀t,-8192≤VP t (nt z.1 k)∧VP t (nt z.1 k)≤8192) (fun z=> [(0, .slice z.2.1 z.1.length z.2.2)]) (kK [1,2,6,7,12,13,14,15,18,19,20,21,8,9,10,68]) (fun z=> [I5 z.1 z.2, .cel b1 120 (jZ p)]) (fun L h_t83=> ?_) ?_
     ·refine qt [(83, .bool (!decide (k<M.length∧(nt M k).e=p)))] (kK [1,2,6,0,7,12,13,14,15,18,19,20,21,8,9,10,68]) (fun L h_12=> ?_) ?_
      ·refine yP mixed Kr (fun _ _ d _ _ h=>by cases d<;>exact h) ?_;refine x9 q9 ?_;refine x9 q9 ?_;refine x9 (JN J J JH) ?_;refine x9 (qF J J J) ?_;refine x9 q9 ?_;refine Q0 75 J (fun g4=> ?_) (fun g4=> ?_)
       ·try simp only[zz] at g4
        (iterate 7 refine z9 ?_);refine x9 (jW J J J) ?_;refine KC ?_;refine S1 ?_
        exact Jk h_12 ⟨vb (by rw [decide_eq_false (fun h=>by omega)];rfl),sz⟩ (u9 J)
       ·try simp only[zz] at g4
        refine y9 q9 ?_;refine y9 q9 ?_;refine y9 (qQ (j:=k) (fun w hs=> (hs.all 0 _ J).1) J J J JH Om) ?_;refine y9 (jf J J Qq) ?_;refine y9 (jk J J KQ J (Z5 [.int .i64 (nt M k).e.ax, .int .i64 (nt M k).e.ay, .int .i64 (nt M k).e.bx, .int .i64 (nt M k).e.b_y] 0 (fun w hs=> (hs.all 0 _ J).1) (show k<M.length by omega) Om (Me J J J J))) ?_;refine y9 (jk J J KQ J (jY (k:=1) J)) ?_;refine y9 (Zf J J J) ?_;refine x9 (jL J J J) ?_;refine KC ?_;refine S1 ?_
        exact Jk h_12 ⟨vb (by rw [RU (e:= (nt M k).e) (f:=p)];have:k<M.length:=Om;simp [this]),sz⟩ (u9 J)
      ·refine v9 ?_;refine cZ (fun c4=> ?_) (fun c4=> ?_)
       ·have hstop:k<M.length→¬Z4 (nt M k).e (Q5 E)∧(nt M k).e≠Q5 E:= (fun h=>⟨fun h2=>c3 ⟨h,hp▸h2⟩,fun h2=>c4 ⟨h,hp▸h2⟩⟩)
        have hnew:Qd s (es.take (i+1)) l= (GQ M k p).set k (wC s (sg E) (nt (GQ M k p) k)) := (by rw [hnext,Rk hkl (fun j hj=>hp▸hkq j hj) hstop,hp])
        obtain ⟨hnk,hnl⟩ :=jgM (p:=p) hkl
        have hsg:=Tk E
        have hkI:k< (GQ M k p).length:=Om
        refine ky (fun w hs=>uZ (hs.all 0 _ J).1) ?_
        intro hcap
        refine S3 ?_;refine Jx J J (zD) J (lb J) (fun b2=> ?_);refine n9 ?_;refine jdZ 2 8 J ?_;refine t9 ?_;refine S2 ?_;refine a9 (Kl J J J JH Om) ?_;refine S1 ?_;refine JV (k:=2) J JH Ub Dc J Dc J J J (fun w' hs=>jaA (hs.all 0 _ J).1 hkl) ((fun u hu=>jcC M u (jiZ hu))) (by unfold maxLen;omega) Om (jii _) (fun r1=> ?_);refine N6 ?_;refine a9 (JU J J (Xc J)) ?_;refine S1 ?_;refine Jx J J (Yn J) J (lb J) (fun b3=> ?_);refine N1 ?_;refine JV (k:=2) J JH Ub Dc J Dc J J J (fun w' hs=>Qb hs (k:=3) J J) (by simp [Value.oneCell']) (by unfold maxLen;omega) Om (jii _) (fun r2=> ?_);refine N6 ?_;refine a9 (Vy J J J JH hkl) ?_;refine S1 ?_;refine JV (k:=2) J JH Ub Dc J Dc J J J (fun w' hs=>jaz (hs.all 0 _ J).1 hkl) ((fun u hu=>jcC M u (ji8 hu))) (by unfold maxLen;omega) Om (jii _) (fun r3=> ?_);refine N2 ?_
        rw [show 0+k+1+ (M.length- k) = (GQ M k p).length by omega]
        rw [show List.take (k*8) (List.flatMap qq M) ++ [Value.int IntKind.i64 p.ax,Value.int IntKind.i64 p.ay,Value.int IntKind.i64 p.bx,Value.int IntKind.i64 p.b_y,Value.int IntKind.i64 0,Value.int IntKind.i64 0,Value.int IntKind.i64 0,Value.int IntKind.i64 0] ++List.drop (k*8) (List.flatMap qq M) = (GQ M k p).flatMap qq from(EG hkl).symm]
        exact kg h_t83 ((GQ M k p,r3)) (⟨hkI,hnew,by simp only;omega,fun t=>by rw [hnk];cases t<;> (show-8192≤(0:Int)∧(0:Int)≤8192;omega)⟩) ⟨rfl,sz⟩ (fun _ h=> (h.picks [2,1] Dc).upto ⟨rfl,sz⟩)
       ·have hst:k<M.length∧(nt M k).e=p:=c4
        have hold:Qd s (es.take (i+1)) l=M.set k (wC s (sg E) (nt M k)) := (by rw [hnext,Rl hst.1 (fun j hj=>hp▸hkq j hj) (hp▸hst.2)])
        refine S2 ?_
        exact kg h_t83 ((M,rA,rc)) (⟨hst.1,hold,by simp only;omega,fun t=>by have h1:=xj (s:=t) hst.1;have h2:=hMa t;simp only;omega⟩) ⟨J,sz⟩ (fun _ h=>h.picks [0,1] Dc)
     ·rintro⟨I,qA,qc⟩ ⟨hIk,hIn,hIl,hIa⟩
      refine v9 ?_;refine r9 ?_
      have hIk:k<I.length:=hIk
      have hIl:I.length≤8193:=hIl
      have hIn:Qd s (es.take (i+1)) l=I.set k (wC s (sg E) (nt I k)) :=hIn
      have hsg:=Tk E
      have hI1:=hIa true
      have hI2:=hIa false
      simp only [VP,if_true,jjg,if_false] at hI1 hI2
      refine S4 ?_;refine cZ (fun c5=> ?_) (fun c5=> ?_)
      ·refine S3 ?_;refine a9 (qQ (j:=k) (fun w hs=> (hs.all 0 _ J).1) J J J JH hIk) ?_;refine S1 ?_;refine a9 (jn J J jt (xJ (i:=5) (fun w hs=> (hs.all 0 _ J).1) hIk Om J)) ?_;refine S2 ?_;refine a9 (qQ (j:=k) (fun w hs=> (hs.all 0 _ J).1) J J J JH hIk) ?_;refine S2 ?_;refine Uw (k:=0) (vs:= [.int .i64 ((nt I k).two+sg E)]) J J J J (by rfl) (by rfl) kS.szx J J (by simp) (by rw [WG qq 8 kE];simp only [jim,jiH];omega) ?_;refine n9 ?_
       rw [jbi hIk rfl]
       refine S8 ?_
       exact Ji hL1 ((i+1,qA,qc)) ((show i+1≤n by omega)) (by simp only;omega) ⟨(by rw [hIn,X7];rfl),vi Om,sz⟩ (fun _ h=>h.upto ⟨by rw [hIn,c5,I5,X7],trivial⟩)
      ·refine S3 ?_;refine a9 (qQ (j:=k) (fun w hs=> (hs.all 0 _ J).1) J J J JH hIk) ?_;refine S1 ?_;refine a9 (jn J J jt (xJ (i:=4) (fun w hs=> (hs.all 0 _ J).1) hIk Om J)) ?_;refine S2 ?_;refine a9 (qQ (j:=k) (fun w hs=> (hs.all 0 _ J).1) J J J JH hIk) ?_;refine S2 ?_;refine Uw (k:=0) (vs:= [.int .i64 ((nt I k).one+sg E)]) J J J J (by rfl) (by rfl) kS.szx J J (by simp) (by rw [WG qq 8 kE];simp only [jim,jiH];omega) ?_;refine n9 ?_
       rw [jbh hIk rfl]
       refine S8 ?_
       exact Ji hL1 ((i+1,qA,qc)) ((show i+1≤n by omega)) (by simp only;omega) ⟨(by rw [hIn,X7];rfl),vi Om,sz⟩ (fun _ h=>h.upto ⟨by rw [hIn,c5,I5,X7],trivial⟩)
 ·have hin:i=n:=Om
  have hMe:M=Qd s es l:= (by rw [hM,hin,←hln,jiX])
  refine S11 ?_;refine jM J (.tmp J) ?_
  intro w' hs
  exact⟨(rA,rc),by rw [hMe],hs.over.wrs.mono fun b hb=>Hm.2 hb,by have:= (hs.all 0 _ rfl).1;rw [hMe] at this;exact this,fun b hb=>by have:= (hs.all 0 _ rfl).2.1 b (by rw [hMe];exact hb);exact this.elim .inr (fun h=> .inl (Hm.2 h)),rfl⟩
end Go.Proofs.YtpncbbcmoiiipaaGreat
