import Derived.Test.YtpncbbcmoiiipaaGreatKNums
set_option linter.unusedVariables false
set_option linter.unusedSimpArgs false
namespace Go.Proofs.YtpncbbcmoiiipaaGreat
open Go Go.RowKit
set_option maxRecDepth 100000
set_option maxHeartbeats 4000000
theorem jnf {n:Nat} {env:List (Nat×Value)} {w0:Bs} {Rs:List Res} {K:Act→World→Prop} (k s m:Nat) (hX:w0.X= []) {b U:Nat} {cs:List Value} (hk:Rs[k]? =some (.cel b U cs)) (hl:cs.length=m*s) (hm:m≤maxLen) (h:At n env w0 (Rs.set k (.row w0.N U s (.slice (some ⟨b,0,none⟩) m m) m cs)) K) :At n env w0 Rs K:=fun a w hf hs=>by
 have hlow:w0.N≤b:= ((hs.all k _ hk).2.1 b rfl).elim id (fun h=>by rw [hX] at h;cases h)
 refine h a w hf (hs.chg hk (fun hP=> ?_) (fun c hc=> ?_) J)
 ·exact⟨hl, .inr ⟨b,m,cs.toArray,rfl,hlow,hP,jih _,hm,by simp [hl],by simp [←hl]⟩⟩
 ·have:some b=some c:=hc
  injection this with this
  exact this.symm
def jnl (p q:Pn) :Leg:=⟨p.1,p.2,q.1,q.2⟩
def jkN (xs:List Pn) :Nat→List Leg
 | 0=> []
 | k+1=>jkN xs k++ [jnl (pt xs k) (pt xs (k+1))]
theorem jks (xs:List Pn) :∀k,(jkN xs k).length=k
 | 0=>rfl
 | k+1=>by rw [jkN,jif,jks xs k];rfl
def KL (xs:List Pn) (cl:Bool) :List Leg:=if xs.length=1 then [jnl (pt xs 0) (pt xs 0)] else jkN xs (xs.length- 1) ++ (if(cl&&decide (2<xs.length)) =true then [jnl (pt xs (xs.length- 1)) (pt xs 0)] else [])
theorem jpe {xs:List Pn} {cl:Bool} (h:xs.length=1) :KL xs cl= [jnl (pt xs 0) (pt xs 0)] :=if_pos h
theorem jpG {xs:List Pn} {cl:Bool} (h:¬xs.length=1) (h2: (cl&&decide (2<xs.length)) =true) :KL xs cl=jkN xs (xs.length- 1) ++ [jnl (pt xs (xs.length- 1)) (pt xs 0)] :=by rw [KL,if_neg h,if_pos h2]
theorem jow {xs:List Pn} {cl:Bool} (h:¬xs.length=1) (h2: (cl&&decide (2<xs.length)) =false) :KL xs cl=jkN xs (xs.length- 1) :=by rw [KL,if_neg h,if_neg (by rw [h2];decide),jiG]
theorem joh (xs:List Pn) (cl:Bool) : (KL xs cl).length≤xs.length+1:=by
 unfold KL
 split
 ·simp
 ·rw [jif,jks]
  split<;>simp<;>omega
theorem jmR {p q:Pn} (hp:bd2 p) (hq:bd2 q) :qN (jnl p q) :=⟨hp.1,hp.2,hq.1,hq.2⟩
theorem jnP {xs:List Pn} (h:∀p∈xs,bd2 p) :∀k,k<xs.length→∀l∈jkN xs k,qN l
 | 0,_,l,hl=>by simp [jkN] at hl
 | k+1,hk,l,hl=>by
  unfold jkN at hl
  rcases jiv.1 hl with h1 | h1
  ·exact jnP h k Om l h1
  ·rw [jik.1 h1]
   exact jmR (h _ (jkv Om)) (h _ (jkv Om))
theorem jpH {xs:List Pn} {cl:Bool} (h:∀p∈xs,bd2 p) (h0:0<xs.length) :∀l∈KL xs cl,qN l:=by
 intro l hl
 unfold KL at hl
 split at hl
 ·rw [jik.1 hl]
  exact jmR (h _ (jkv h0)) (h _ (jkv h0))
 ·rcases jiv.1 hl with h1 | h1
  ·exact jnP h _ Om l h1
  ·split at h1
   ·rw [jik.1 h1]
    exact jmR (h _ (jkv Om)) (h _ (jkv h0))
   ·simp at h1
theorem jmk (xs:List Pn) (k:Nat) : (jkN xs (k+1)).flatMap jZ= (jkN xs k).flatMap jZ++ [.int .i64 (px xs k), .int .i64 (py xs k), .int .i64 (px xs (k+1)), .int .i64 (py xs (k+1))] :=by
 rw [jkN,jio]
 rfl
theorem jod (A:Option Addr) (n c:Nat) (xs:List Pn) (cl:Bool) (w:World) (h:Pts w A n xs) (h0:0<n) (hn:n≤1048576) :
  Calls Tryz.prog 129 #[.slice A n c, .bool cl] w fun e w'=>∃v,e= .returned v∧w'.ownsRow w.heap.size 131 4 v (KL xs cl).length ((KL xs cl).flatMap jZ)∧Over w w':=by
 have hl:=h.1
 obtain ⟨eb,eo,rfl,_⟩ :=h.2 h0
 refine Jh (m:=57) (Tryz.func129) J J (lb J) ?_;refine S11 ?_;refine cZ (fun c1=> ?_) (fun c1=> ?_)
 ·refine S2 ?_;refine JS 9 ?_;refine dK 0 ?_;refine dZ 1 J (jN (j:=0) J J J jw Om) ?_;refine dZ 2 J (jk J J jj J (wL h h0)) ?_;refine dK 3 ?_;refine dZ 4 J (jN (j:=0) J J J jw Om) ?_;refine dZ 5 J (jk J J jj J (wL h h0)) ?_;refine dZ 6 J (JU J J (yD J J)) ?_;refine qe (i:=7) J Dc Kr J ?_;refine Jx J J (Kx J) J (lb J) (fun b1=> ?_);refine n9 ?_;refine JO (u9 J) ?_;refine dK 8 ?_;refine JK Kr ?_;refine jnf 0 4 1 J J J (by unfold maxLen;omega) ?_;refine t9 ?_;refine S3 ?_;refine jM J (.tmp J) ?_
  intro w' hs
  have h1:=jpe (xs:=xs) (cl:=cl) Om
  exact⟨_,rfl,by rw [h1];exact jkw hs (k:=0) (x:= (some ⟨b1,0,none⟩,1)) rfl,hs.fin⟩
 ·refine S5 ?_;refine Q7 (T:=131) (s:=4) ?_;refine N7 ?_;refine JQ (X:=Nat×Option Addr×Nat) (fun x=>1≤x.1∧x.1≤n) (fun x=>n- x.1) (fun x=> [(5, .slice x.2.1 (x.1- 1) x.2.2),(6, .int .i64 (x.1:Int))]) (kK [0,1,4]) (fun x=> [JY (Bs.N ⟨w,[]⟩) 131 4 (x.1- 1) ((jkN xs (x.1- 1)).flatMap jZ) x.2]) (1,none,0) (⟨jih _,h0⟩) ⟨J,sz⟩ (fun _ h=>h) ?_
  intro⟨k,rA,rc⟩ hk L hL1
  refine v9 ?_;refine r9 ?_
  obtain ⟨hk1,hk2⟩ :1≤k∧k≤n:=hk
  refine S8 ?_;refine cZ (fun c2=> ?_) (fun c2=> ?_)
  ·have hlt:k<n:=Om
   refine S5 ?_;refine JS 12 ?_;refine dK 0 ?_;refine dV 1 [4,5,10,11] ?_;refine dV 2 [3,4,5,10,11] ?_;refine d9 3 J [4,5,10,11] (u9 J) ((JJ J J J Om Om).as (congrArg _ (show((k:Int) - 1) = ((k- 1:Nat) :Int) by omega))) ?_;refine dV 4 [5,10,11] ?_;refine d9 5 J [10,11] (u9 J) (jk J J jj J (wL h Om)) ?_;refine dV 6 [8,9,10,11] ?_;refine dV 7 [8,9,10,11] ?_;refine dV 8 [9,10,11] ?_;refine d9 9 J [10,11] (u9 J) (jk J J jj J (wL h hlt)) ?_;refine d9 10 J [11] (u9 J) (JU J J (yD J J)) ?_;refine qe (i:=11) J Dc Kr J ?_;refine Jx J J (Kx J) J (lb J) (fun b2=> ?_);refine n9 ?_;refine JO (u9 J) ?_;refine vg J Kr J ?_;refine JV (k:=0) J Jf qn Dc J Dc J J J (fun w' hs=>Qb hs (k:=1) J J) (by simp [Value.oneCell']) (by unfold maxLen;omega) Om (jih _) (fun r1=> ?_);refine n9 ?_;refine JS 14 ?_;refine dK 13 ?_;refine JK Kr ?_;refine S7 ?_
   exact Ji hL1 ((k+1,r1)) (⟨show 1≤k+1 by omega,show k+1≤n by omega⟩) (by simp only;omega) ⟨(by show _=some (Value.slice r1.1 (k+1- 1) r1.2);rw [show k+1- 1=k- 1+1 by omega];rfl),vi Om,sz⟩ (fun _ h=>h.upto ⟨by dsimp only;rw [show k+1- 1=k- 1+1 by omega,jmk,show k- 1+1=k by omega],trivial⟩)
  ·have hkn:k=n:=Om
   subst hkn
   refine S10 ?_;refine cV 38 (fun g1=> ?_) (fun g1=> ?_)
   ·refine S8 ?_;refine cZ (fun c3=> ?_) (fun c3=> ?_)
    ·have hcl:=jpG (xs:=xs) (cl:=cl) Om (by simp_all;omega)
     refine S1 ?_;refine JS 12 ?_;refine dK 0 ?_;refine dV 1 [5,6,10,11] ?_;refine dV 2 [3,4,5,6,10,11] ?_;refine dV 3 [4,5,6,10,11] ?_;refine d9 4 J [5,6,10,11] (u9 J) ((JJ J J J Om Om).as (congrArg _ (show((k:Int) - 1) = ((k- 1:Nat) :Int) by omega))) ?_;refine dV 5 [6,10,11] ?_;refine d9 6 J [10,11] (u9 J) (jk J J jj J (wL h Om)) ?_;refine dV 7 [8,9,10,11] ?_;refine d9 8 J [9,10,11] (u9 J) (jN (j:=0) J J J jw Om) ?_;refine d9 9 J [10,11] (u9 J) (jk J J jj J (wL h h0)) ?_;refine d9 10 J [11] (u9 J) (JU J J (yD J J)) ?_;refine qe (i:=11) J Dc Kr J ?_;refine Jx J J (Kx J) J (lb J) (fun b3=> ?_);refine n9 ?_;refine JO (u9 J) ?_;refine vg J Kr J ?_;refine JV (k:=0) J Jf qn Dc J Dc J J J (fun w' hs=>Qb hs (k:=1) J J) (by simp [Value.oneCell']) (by unfold maxLen;omega) Om (jih _) (fun r2=> ?_);refine n9 ?_;refine JS 14 ?_;refine dK 13 ?_;refine JK Kr ?_;refine S7 ?_;refine jM J (.tmp J) ?_
     intro w' hs
     exact⟨_,rfl,by rw [hcl,jif,jks,jio,hl];exact jkw hs (k:=0) rfl,hs.fin⟩
    ·refine S8 ?_;refine jM J (.tmp J) ?_
     intro w' hs
     have hop:=jow (xs:=xs) (cl:=cl) Om (by simp [*];omega)
     exact⟨_,rfl,by rw [hop,jks,hl];exact jkw hs (k:=0) rfl,hs.fin⟩
   ·refine S14 ?_;refine jM J (.tmp J) ?_
    intro w' hs
    have hop:=jow (xs:=xs) (cl:=cl) Om (by simp [*])
    exact⟨_,rfl,by rw [hop,jks,hl];exact jkw hs (k:=0) rfl,hs.fin⟩
theorem jnN (A:Option Addr) (n c:Nat) (xs:List Pn) (cl:Bool) (w:World) (h:Pts w A n xs) (h0:0<n) (hn:n≤1048576) :
  Calls Tryz.prog 126 #[.slice A n c, .bool cl] w fun e w'=>∃v,e= .returned v∧w'.ownsRow w.heap.size 120 4 v (KL xs cl).length ((KL xs cl).flatMap jZ)∧Over w w':=by
 have hl:=h.1
 obtain ⟨eb,eo,rfl,_⟩ :=h.2 h0
 refine Jh (m:=58) (Tryz.func126) J J (lb J) ?_;refine S7 ?_;refine Jx J J (zb) J (lb J) (fun b1=> ?_);refine WF 0 4 J J ?_;refine N14 ?_;refine cZ (fun c1=> ?_) (fun c1=> ?_)
 ·refine S2 ?_;refine JS 9 ?_;refine dK 0 ?_;refine dZ 1 J (jN (j:=0) J J J jw Om) ?_;refine dZ 2 J (jk J J jj J (wL h h0)) ?_;refine dK 3 ?_;refine dZ 4 J (jN (j:=0) J J J jw Om) ?_;refine dZ 5 J (jk J J jj J (wL h h0)) ?_;refine dZ 6 J (JU J J (uC J J)) ?_;refine qe (i:=7) J Dc Kr J ?_;refine Jx J J (Wm J) J (lb J) (fun b2=> ?_);refine n9 ?_;refine JO (u9 J) ?_;refine dK 8 ?_;refine JK Kr ?_;refine jnf 1 4 1 J J J (by unfold maxLen;omega) ?_;refine t9 ?_;refine S3 ?_;refine jM J (.tmp J) ?_
  intro w' hs
  have h1:=jpe (xs:=xs) (cl:=cl) Om
  exact⟨_,rfl,by rw [h1];exact jkw hs (k:=1) (x:= (some ⟨_,0,none⟩,1)) rfl,hs.fin⟩
 ·refine S8 ?_;refine JQ (X:=Nat×Option Addr×Nat) (fun x=>x.1+1≤n) (fun x=>n- x.1) (fun x=> [(5, .slice x.2.1 x.1 x.2.2),(7, .int .i64 (x.1:Int))]) (kK [0,1,4,6]) (fun x=> [JY (Bs.N ⟨w,[]⟩) 120 4 x.1 ((jkN xs x.1).flatMap jZ) x.2]) (0,some ⟨b1,0,none⟩,0) (h0) ⟨J,sz⟩ (fun _ h=>h) ?_
  intro⟨k,rA,rc⟩ hk L hL1
  refine v9 ?_;refine r9 ?_
  have hk1:k+1≤n:=hk
  refine S8 ?_;refine cZ (fun c2=> ?_) (fun c2=> ?_)
  ·have hlt:k+1<n:=Om
   refine S5 ?_;refine JS 12 ?_;refine dK 0 ?_;refine dV 1 [3,4,10,11] ?_;refine dV 2 [3,4,10,11] ?_;refine dV 3 [4,10,11] ?_;refine d9 4 J [10,11] (u9 J) (jk J J jj J (wL h Om)) ?_;refine dV 5 [8,9,10,11] ?_;refine dV 6 [7,8,9,10,11] ?_;refine d9 7 J [8,9,10,11] (u9 J) ((jX J J J Om Om).as (congrArg _ (show((k:Int) +1) = ((k+1:Nat) :Int) by omega))) ?_;refine dV 8 [9,10,11] ?_;refine d9 9 J [10,11] (u9 J) (jk J J jj J (wL h hlt)) ?_;refine d9 10 J [11] (u9 J) (JU J J (uC J J)) ?_;refine qe (i:=11) J Dc Kr J ?_;refine Jx J J (Wm J) J (lb J) (fun b3=> ?_);refine n9 ?_;refine JO (u9 J) ?_;refine vg J Kr J ?_;refine JV (k:=0) J Jm ku Dc J Dc J J J (fun w' hs=>Qb hs (k:=1) J J) (by simp [Value.oneCell']) (by unfold maxLen;omega) Om (jih _) (fun r1=> ?_);refine n9 ?_;refine JS 14 ?_;refine dK 13 ?_;refine JK Kr ?_;refine S7 ?_
   exact Ji hL1 ((k+1,r1)) ((show k+1+1≤n by omega)) (by simp only;omega) ⟨J,vi Om,sz⟩ (fun _ h=>h.upto ⟨by rw [jmk],trivial⟩)
  ·have hkn:k=n- 1:=Om
   subst hkn
   refine S10 ?_;refine cV 41 (fun g1=> ?_) (fun g1=> ?_)
   ·refine S6 ?_;refine cZ (fun c3=> ?_) (fun c3=> ?_)
    ·have hcl:=jpG (xs:=xs) (cl:=cl) Om (by simp_all;omega)
     refine S1 ?_;refine JS 11 ?_;refine dK 0 ?_;refine dV 1 [4,5,9,10] ?_;refine dV 2 [3,4,5,9,10] ?_;refine d9 3 J [4,5,9,10] (u9 J) ((JJ J J J Om Om).as (congrArg _ (show((n:Int) - 1) = ((n- 1:Nat) :Int) by omega))) ?_;refine dV 4 [5,9,10] ?_;refine d9 5 J [9,10] (u9 J) (jk J J jj J (wL h Om)) ?_;refine dV 6 [7,8,9,10] ?_;refine d9 7 J [8,9,10] (u9 J) (jN (j:=0) J J J jw Om) ?_;refine d9 8 J [9,10] (u9 J) (jk J J jj J (wL h h0)) ?_;refine d9 9 J [10] (u9 J) (JU J J (uC J J)) ?_;refine qe (i:=10) J Dc Kr J ?_;refine Jx J J (Wm J) J (lb J) (fun b4=> ?_);refine n9 ?_;refine JO (u9 J) ?_;refine vg J Kr J ?_;refine JV (k:=0) J Jm ku Dc J Dc J J J (fun w' hs=>Qb hs (k:=1) J J) (by simp [Value.oneCell']) (by unfold maxLen;omega) Om (jih _) (fun r2=> ?_);refine n9 ?_;refine JS 13 ?_;refine dK 12 ?_;refine JK Kr ?_;refine S7 ?_;refine jM J (.tmp J) ?_
     intro w' hs
     exact⟨_,rfl,by rw [hcl,jif,jks,jio,hl];exact jkw hs (k:=0) rfl,hs.fin⟩
    ·refine S8 ?_;refine jM J (.tmp J) ?_
     intro w' hs
     have hop:=jow (xs:=xs) (cl:=cl) Om (by simp [*];omega)
     exact⟨_,rfl,by rw [hop,jks,hl];exact jkw hs (k:=0) rfl,hs.fin⟩
   ·refine S13 ?_;refine jM J (.tmp J) ?_
    intro w' hs
    have hop:=jow (xs:=xs) (cl:=cl) Om (by simp [*])
    exact⟨_,rfl,by rw [hop,jks,hl];exact jkw hs (k:=0) rfl,hs.fin⟩
def jko (pen:List Pn) (l:Leg) :List Pn:=DX (jkd pen [lA l,lB l])
theorem jm3 {pen:List Pn} (h:jkJ pen=true) (l:Leg) :0< (jko pen l).length∧(jko pen l).length≤64:=by
 refine⟨jo1 ?_,jpA h _ _⟩
 have:= (jm1 h).1
 rw [jl6]
 exact Nat.mul_pos Om (show 0<2 by decide)
theorem jnt (A:Option Addr) (n c:Nat) (pen:List Pn) (l:Leg) (w:World) (h:Pts w A n pen) (hpen:jkJ pen=true) (hl:qN l) :
  Calls Tryz.prog 127 #[.slice A n c,uS l.ax l.ay,uS l.bx l.b_y] w fun e w'=>∃x:Option Addr×Nat,e= .returned (.tuple #[.slice x.1 (jko pen l).length x.2, .bool (WE (jko pen l))])∧w'.ownsRow w.heap.size 56 2 (.slice x.1 (jko pen l).length x.2) (jko pen l).length ((jko pen l).flatMap Js)∧Over w w':=
 jns A n c pen (lA l) (lB l) w h hpen (VG hl) (wq hl)
def rwB (pen path:List Pn) :Bool:=jkJ pen&&QA path
def rwA (pen path:List Pn) (cl:Bool) :List jV:= (KL path cl).map (jko pen)
def rwC (pen path:List Pn) (cl:Bool) :Int:=if rwB pen path=true then(if((KL path cl).all fun l=>WE (jko pen l)) =true then LM (rwA pen path cl) else 2) else 1
def rwR (pen path:List Pn) (cl:Bool) :List jV:=if rwC pen path cl=0 then rwA pen path cl else []
theorem joA {pen path:List Pn} {cl:Bool} (h:rwB pen path=false) :rwC pen path cl=1∧rwR pen path cl= [] :=by simp [rwR,rwC,h]
theorem jpk {pen path:List Pn} {cl:Bool} {l:Leg} (h:rwB pen path=true) (hl:l∈KL path cl) (hb:WE (jko pen l) =false) :rwC pen path cl=2∧rwR pen path cl= [] :=by
 have h1: ((KL path cl).all fun l=>WE (jko pen l)) =false:=List.all_eq_false.2 ⟨l,hl,by rw [hb];decide⟩
 have h2:rwC pen path cl=2:=by rw [rwC,if_pos h,if_neg (by rw [h1];decide)]
 exact⟨h2,by rw [rwR,if_neg (by rw [h2];decide)]⟩
theorem jpj {pen path:List Pn} {cl:Bool} (h:rwB pen path=true) (ha:∀l∈KL path cl,WE (jko pen l) =true) :rwC pen path cl=LM (rwA pen path cl) :=by
 rw [rwC,if_pos h,if_pos (jjn.2 ha)]
theorem joz {pen path:List Pn} {cl:Bool} (h:rwB pen path=true) (ha:∀l∈KL path cl,WE (jko pen l) =true) (hr:JE (rwA pen path cl) =false) :rwC pen path cl=5∧rwR pen path cl= [] :=by
 have h2:rwC pen path cl=5:=by rw [jpj h ha];simp [LM,hr]
 exact⟨h2,by rw [rwR,if_neg (by rw [h2];decide)]⟩
theorem jpm {pen path:List Pn} {cl:Bool} (h:rwB pen path=true) (ha:∀l∈KL path cl,WE (jko pen l) =true) (hr:JE (rwA pen path cl) =true) :rwC pen path cl=0∧rwR pen path cl=rwA pen path cl:=by
 have h2:rwC pen path cl=0:=by rw [jpj h ha];simp [LM,hr]
 exact⟨h2,by rw [rwR,if_pos h2]⟩
theorem jpP {ls:List Leg} {f:Leg→jV} {k:Nat} (h:k<ls.length) :rg (ls.map f) k=f (lg ls k) :=by
 rw [←Wa (by simpa using h),jjs,Uz h]
theorem jmS {ls:List Leg} {f:Leg→jV} {k:Nat} (h:k<ls.length) : (ls.take (k+1)).map f= (ls.take k).map f++ [f (lg ls k)] :=by
 rw [jin h,jiO,Uz h]
 rfl
theorem jlM {pen:List Pn} (h:jkJ pen=true) {ls:List Leg} (hl:ls.length≤2000) :smallR (ls.map (jko pen)) :=by
 refine⟨by rw [jit];exact hl,fun j hj=> ?_⟩
 rw [jit] at hj
 rw [jpP hj]
 have:= (jm3 h (lg ls j)).2
 omega
theorem jnm (pen path:List Pn) (cl:Bool) :smallR (rwR pen path cl) :=by
 unfold rwR
 split
 ·rename_i h
  unfold rwC at h
  split at h
  ·rename_i h1
   simp only [rwB,jig] at h1
   have h2:= (jnD h1.2).1
   have h3:=joh path cl
   exact jlM h1.1 Om
  ·omega
 ·exact smallR.nil
theorem joR {ls:List Leg} {P:Leg→Prop} (h:∀j,j<ls.length→P (lg ls j)) :∀l∈ls,P l:=by
 intro l hl
 obtain ⟨j,hj,rfl⟩ :=ji0 hl
 rw [Uz hj]
 exact h j hj
theorem jo6 {ls:List Leg} {k:Nat} (h:k<ls.length) :lg ls k∈ls:=by rw [←Uz h];exact jis h
abbrev RwP (pen path:List Pn) (cl:Bool) (e:Ending) (w w':World) :Prop:=∃x: (Option Addr×Nat)×List Pc,e= .returned (.tuple #[qT x.1.1 (rwR pen path cl).length x.1.2, .int .i64 (rwC pen path cl)])∧Over w w'∧(rpR 77 (rwR pen path cl).length x).P w'∧(∀b,(rpR 77 (rwR pen path cl).length x).F b→w.heap.size≤b)∧(rpR 77 (rwR pen path cl).length x).B=0∧x.2.map (·.xs) =rwR pen path cl
theorem jkT {pen path:List Pn} {cl:Bool} {w w':World} {k:Int} (h1:rwC pen path cl=k) (h2:rwR pen path cl= []) (ho:Over w w') :RwP pen path cl (.returned (.tuple #[qT none 0 0, .int .i64 k])) w w':=by
 have hF:∀b,¬(rpR 77 0 ((none,0),[])).F b:=fun b hb=>by
  obtain ⟨r,hr,hb⟩ :=hb
  simp only [jir,ji3,or_false] at hr
  rcases hr with rfl | rfl
  ·exact absurd (show Value.ownBlock (.slice none 0 0) =some b from hb) (by simp [Value.ownBlock])
  ·obtain ⟨r,hr,_⟩ :=hb
   simp at hr
 refine⟨((none,0),[]),by rw [h1,h2];rfl,ho,?_,?_,J,by rw [h2];rfl⟩
 ·rw [h2]
  exact jhB (World.ownsRow_nil _ _ _ _:World.ownsRow w' 0 77 1 (.slice none 0 0) 0 []) ⟨fun r hr=>absurd hr (by simp),List.Pairwise.nil⟩ rfl rfl fun b hb _=>absurd (show Value.ownBlock (.slice none 0 0) =some b from hb) (by simp [Value.ownBlock])
 ·rw [h2]
  exact fun b hb=>absurd hb (hF b)
theorem jpn {pen path:List Pn} {cl:Bool} {w w':World} {Rs:List Res} (hs:St ⟨w,[]⟩ Rs w') {kr kp B k:Nat} {l:List Pc} {x:Option Addr×Nat} (hr:Rs[kr]? =some (JY B 77 1 k (l.map Pc.val) x)) (hp:Rs[kp]? =some (vE l)) (hne:kr≠kp)
  (h1:rwC pen path cl=0) (h2:rwR pen path cl=rwA pen path cl) (hln: (rwA pen path cl).length=k) (hrs:l.map (·.xs) =rwA pen path cl) (ho:Over w w') :RwP pen path cl (.returned (.tuple #[qT x.1 k x.2, .int .i64 0])) w w':=by
 obtain ⟨p1,p2⟩ :=jpU hs hr hp hne
 exact⟨(x,l),by rw [h1,h2,hln],ho,by rw [h2,hln];exact p1,by rw [h2,hln];exact p2,rfl,by rw [h2];exact hrs⟩
theorem jpV {w w':World} {r s:Res} (ho:Over w w') (hP: (Res.many [r,s]).P w') (hF:∀b,(Res.many [r,s]).F b→w.heap.size≤b) :St ⟨w,[]⟩ [r,s] w':=by
 obtain ⟨h1,h2⟩ :=hP
 have hap:∀b,r.F b→¬s.F b:=by simpa using h2
 refine⟨Ovx.of ho,fun i q hi=> ?_,fun i j q t hne hi hj b hb hb2=> ?_⟩
 ·have hm:=List.mem_of_getElem? hi
  exact⟨(h1 q hm).1,fun b hb=> .inl (hF b ⟨q,hm,hb⟩),by rw [(h1 q hm).2];exact jii _,fun b hb=>by cases hb⟩
 ·match i,j,hne,hi,hj with
  | 0,0,hne,_,_=>exact hne rfl
  | 1,1,hne,_,_=>exact hne rfl
  | 0,1,_,hi,hj=>simp at hi hj;subst hi hj;exact hap b hb hb2
  | 1,0,_,hi,hj=>simp at hi hj;subst hi hj;exact hap b hb2 hb
  | n+2,_,_,hi,_=>simp at hi
  | _,n+2,_,_,hj=>simp at hj
theorem joB {pen path:List Pn} {cl:Bool} {e:Ending} {w w':World} (h:RwP pen path cl e w w') :∃A' c',e= .returned (.tuple #[qT A' (rwR pen path cl).length c', .int .i64 (rwC pen path cl)])∧OwnG w.heap.size w'.heap.size w' A' (rwR pen path cl).length (rwR pen path cl)∧Over w w':=by
 obtain ⟨x,rfl,ho,hP,hF,_,hx⟩ :=h
 refine⟨x.1.1,x.1.2,J,?_,ho⟩
 exact Il (jpV ho hP hF) (kr:=0) (kp:=1) (l:=x.2) (x:=x.1) rfl rfl Dc rfl (by have:=congrArg List.length hx;rwa [jit] at this) hx fun j hj=>jjb ((jnm pen path cl).2 j hj) Dc
theorem jlN (A:Option Addr) (n c:Nat) (pen:List Pn) (B:Option Addr) (m d:Nat) (path:List Pn) (cl:Bool) (w:World) (h:Pts w A n pen) (h2:Pts w B m path) (hn: (n:Int)≤1048576) (hm: (m:Int)≤1048576) :
  Calls Tryz.prog 67 #[.slice A n c, .slice B m d, .bool cl] w fun e w'=>RwP pen path cl e w w':=by
 have hl:=h.1
 have hl2:=h2.1
 refine Jh (m:=56) (Tryz.func67) J J (lb J) ?_;refine S3 ?_;refine aL (fun b1=> ?_);refine N6 ?_;refine a9 (jT jlE J J (fun w1 hs=>jnc A n c pen w1 (h.over hs.fin) hn)) ?_;refine S2 ?_;refine cV 16 (fun g1=> ?_) (fun g1=> ?_)
 ·refine S8 ?_;refine a9 (JU J J (qg)) ?_;refine S6 ?_;refine qv J (qh (k:=0) J jG J J) (.tmp J) ?_
  intro w' hs
  obtain ⟨e1,e2⟩ :=joA (pen:=pen) (path:=path) (cl:=cl) (by simp_all [rwB])
  exact jkT e1 e2 hs.fin
 ·refine S3 ?_;refine o9 (jT Oo J J (fun w1 hs=>jmN B m d path w1 (h2.over hs.fin) Om)) ?_;refine S4 ?_;refine cZ (fun c1=> ?_) (fun c1=> ?_)
  ·refine S2 ?_;refine a9 (JU J J (qg)) ?_;refine S6 ?_;refine qv J (qh (k:=0) J jG J J) (.tmp J) ?_
   intro w' hs
   obtain ⟨e1,e2⟩ :=joA (pen:=pen) (path:=path) (cl:=cl) (by simp_all [rwB])
   exact jkT e1 e2 hs.fin
  ·have hpen:jkJ pen=true:=by simp_all
   have hpath:QA path=true:=by simp_all
   have hB:rwB pen path=true:=by rw [rwB,hpen,hpath];rfl
   obtain ⟨kb,kb2⟩ :=jnD hpath
   have hlo:=jpH (cl:=cl) kb2 Om
   have hll:=joh path cl
   obtain ⟨ka,ka2,_⟩ :=jm1 hpen
   refine S5 ?_;refine aL (fun b2=> ?_);refine N7 ?_;refine J4 jmW (v:=fun x=> .slice x.1 _ x.2) (r:=fun x=>JY 0 131 4 _ _ x) (H:=fun _=>True) J J J (lb J) (fun w1 hs=>Qh (jod B m d path cl w1 (h2.over hs.fin) Om Om)) ?_
   rintro⟨lA_,lc⟩ -
   refine N3 ?_;refine Q7 (T:=77) (s:=1) ?_;refine t9 ?_;refine Vq ?_;refine t9 ?_;refine S1 ?_;refine JQ (X:=Nat×(Option Addr×Nat)×List Pc) (fun x=>x.1≤(KL path cl).length∧x.2.2.map (·.xs) = ((KL path cl).take x.1).map (jko pen)∧∀j,j<x.1→WE (jko pen (lg (KL path cl) j)) =true) (fun x=> (KL path cl).length- x.1) (fun x=> [(26, .int .i64 (x.1:Int))]) (kK [0,6,7,8,24,25]) (fun x=> [.cel b1 26 [.slice none 0 0], .cel b2 26 [.slice x.2.1.1 x.1 x.2.1.2],JY 0 131 4 (KL path cl).length ((KL path cl).flatMap jZ) (lA_,lc),JY (Bs.N ⟨w,[]⟩) 77 1 x.1 (x.2.2.map Pc.val) x.2.1,vE x.2.2]) (0,(none,0),[]) (⟨jii _,J,fun j hj=>absurd hj (Nat.not_lt_zero j)⟩) ⟨J,sz⟩ (fun _ h=>h) ?_
   intro⟨k,⟨rA,rc⟩,l⟩ hx L hL1
   refine v9 ?_;refine r9 ?_
   obtain ⟨hk,hmp,hall⟩ :k≤(KL path cl).length∧l.map (·.xs) = ((KL path cl).take k).map (jko pen)∧∀j,j<k→WE (jko pen (lg (KL path cl) j)) =true:=hx
   have hlk:l.length=k:=by have:=congrArg List.length hmp;rw [jit,jit,jiy] at this;omega
   refine S5 ?_;refine cZ (fun c2=> ?_) (fun c2=> ?_)
   ·have hlt:k< (KL path cl).length:=Om
    have hlg:=QS hlo hlt
    have hsl:=jm3 hpen (lg (KL path cl) k)
    refine ky (fun w hs=>VJ (k:=2) J hs Om) ?_
    rintro⟨eg,rfl⟩
    refine S7 ?_;refine a9 (jk J J qG J (ya (fun w1 hs=>JC (k:=2) (x:= (some ⟨eg,0,none⟩,lc)) J J w1 hs) hlt)) ?_;refine S1 ?_;refine aL (fun b3=> ?_);refine N11 ?_;refine Jx J J (VO J J) J (lb J) (fun b4=> ?_);refine N1 ?_;refine J4 jmX (v:=fun x=> .tuple #[.slice x.1 _ x.2, .bool _]) (r:=fun x=>JY 0 56 2 _ _ x) (H:=fun _=>True) J J J (lb J) (fun w1 hs=>jny (joj A n c pen _ 2 2 [lA (lg (KL path cl) k),lB (lg (KL path cl) k)] w1 (h.over hs.fin) (jcT [lA (lg (KL path cl) k),lB (lg (KL path cl) k)] (k:=6) J J w1 hs) (jmE ka2) (jot (VG hlg) (wq hlg)) Om Om)) ?_
    rintro⟨pA,pc⟩ -
    refine N12 ?_;refine cZ (fun c3=> ?_) (fun c3=> ?_)
    ·refine S2 ?_;refine a9 (JU J J (qg)) ?_;refine S11 ?_;refine qv J (qh (k:=0) J jG J J) (.tmp J) ?_
     intro w' hs
     obtain ⟨e1,e2⟩ :=jpk hB (jo6 hlt) (by simp_all [jko])
     exact jkT e1 e2 hs.fin
    ·have hok:WE (jko pen (lg (KL path cl) k)) =true:=by simp_all [jko]
     refine S6 ?_;refine a9 (JU J J (Vs J)) ?_;refine S1 ?_;refine Jx J J (qH J) J (lb J) (fun b5=> ?_);refine N1 ?_;refine JV (k:=3) J jK Jw Dc J Dc J J J (fun w' hs=>Qb hs (k:=8) J J) (by simp [Value.oneCell']) (by unfold maxLen;omega) Om (jih _) (fun r1=> ?_);refine N4 ?_;refine ZY 7 J J (fun clo chi=> ?_);refine t9 ?_;refine wN 4 7 J J Dc J ?_;refine t9 ?_;refine S6 ?_
     exact Ji hL1 ((k+1,r1,l++ [⟨jko pen (lg (KL path cl) k),pA,pc,clo,chi⟩])) (⟨show k+1≤(KL path cl).length by omega,by rw [jiO,hmp,jmS hlt];rfl,fun j hj=> (jjk j k).elim (hall j) (fun h3=> (show k=j by omega)▸hok)⟩) (by simp only;omega) ⟨vi Om,sz⟩ (fun _ h=>h.upto ⟨J,J,J,by rw [jiO];rfl,(vT _ _).symm,trivial⟩)
   ·have hkn:k= (KL path cl).length:=Om
    have hrs:l.map (·.xs) =rwA pen path cl:=by rw [hmp,jiK Om];rfl
    have hsm:=jlM hpen (ls:=KL path cl) Om
    have hln: (rwA pen path cl).length=k:=by rw [←hrs,jit];exact hlk
    have hall2:=joR (P:=fun l=>WE (jko pen l) =true) (fun j hj=>hall j Om)
    refine S9 ?_;refine a9 (jT vG J J (fun w1 hs=>jkm _ _ _ (rwA pen path cl) w1 (Il hs (kr:=3) (kp:=4) J J Dc J hlk hrs (fun i hi=>by have:=hsm.2 i hi;exact jjb this Dc)).rings (jjC hsm.total Dc))) ?_;refine S2 ?_;refine cZ (fun c4=> ?_) (fun c4=> ?_)
    ·refine S2 ?_;refine a9 (JU J J (qg)) ?_;refine S6 ?_;refine qv J (qh (k:=0) J jG J J) (.tmp J) ?_
     intro w' hs
     obtain ⟨e1,e2⟩ :=joz hB hall2 (by simp_all)
     exact jkT e1 e2 hs.fin
    ·refine S10 ?_;refine qv J (qh (k:=0) J jG J J) (.tmp J) ?_
     intro w' hs
     obtain ⟨e1,e2⟩ :=jpm hB hall2 (by simp_all)
     exact jpn (l:=l) (x:= (rA,rc)) hs (kr:=3) (kp:=4) rfl rfl Dc e1 e2 hln hrs hs.fin
theorem jnk (A:Option Addr) (n c:Nat) (pen:List Pn) (B:Option Addr) (m d:Nat) (path:List Pn) (cl:Bool) (w:World) (h:Pts w A n pen) (h2:Pts w B m path) (hn: (n:Int)≤1048576) (hm: (m:Int)≤1048576) :
  Calls Tryz.prog 65 #[.slice A n c, .slice B m d, .bool cl] w fun e w'=>RwP pen path cl e w w':=by
 have hl:=h.1
 have hl2:=h2.1
 refine Jh (m:=61) (Tryz.func65) J J (lb J) ?_;refine S3 ?_;refine aL (fun b1=> ?_);refine N6 ?_;refine a9 (jT jkI J J (fun w1 hs=>jlI A n c pen w1 (h.over hs.fin) hn)) ?_;refine S2 ?_;refine cV 16 (fun g1=> ?_) (fun g1=> ?_)
 ·refine S8 ?_;refine a9 (JU J J (qg)) ?_;refine S6 ?_;refine qv J (qh (k:=0) J jG J J) (.tmp J) ?_
  intro w' hs
  obtain ⟨e1,e2⟩ :=joA (pen:=pen) (path:=path) (cl:=cl) (by simp_all [rwB])
  exact jkT e1 e2 hs.fin
 ·refine S3 ?_;refine o9 (jT jmw J J (fun w1 hs=>jnO B m d path w1 (h2.over hs.fin) Om)) ?_;refine S4 ?_;refine cZ (fun c1=> ?_) (fun c1=> ?_)
  ·refine S2 ?_;refine a9 (JU J J (qg)) ?_;refine S6 ?_;refine qv J (qh (k:=0) J jG J J) (.tmp J) ?_
   intro w' hs
   obtain ⟨e1,e2⟩ :=joA (pen:=pen) (path:=path) (cl:=cl) (by simp_all [rwB])
   exact jkT e1 e2 hs.fin
  ·have hpen:jkJ pen=true:=by simp_all
   have hpath:QA path=true:=by simp_all
   have hB:rwB pen path=true:=by rw [rwB,hpen,hpath];rfl
   obtain ⟨kb,kb2⟩ :=jnD hpath
   have hlo:=jpH (cl:=cl) kb2 Om
   have hll:=joh path cl
   obtain ⟨ka,ka2,_⟩ :=jm1 hpen
   refine S4 ?_;refine a9 (JU J J (qg)) ?_;refine S1 ?_;refine aL (fun b2=> ?_);refine N8 ?_;refine J4 jmv (v:=fun x=> .slice x.1 _ x.2) (r:=fun x=>JY 0 120 4 _ _ x) (H:=fun _=>True) J J J (lb J) (fun w1 hs=>Qh (jnN B m d path cl w1 (h2.over hs.fin) Om Om)) ?_
   rintro⟨lA_,lc⟩ -
   refine N2 ?_;refine Q7 (T:=77) (s:=1) ?_;refine t9 ?_;refine Vq ?_;refine t9 ?_;refine S6 ?_;refine JQ (X:=Nat×(Option Addr×Nat)×List Pc) (fun x=>x.1≤(KL path cl).length∧x.2.2.map (·.xs) = ((KL path cl).take x.1).map (jko pen)∧∀j,j<x.1→WE (jko pen (lg (KL path cl) j)) =true) (fun x=> (KL path cl).length- x.1) (fun x=> [(10, .int .i64 (x.1:Int))]) (kK [0,6,7,8,9]) (fun x=> [.cel b1 26 [.slice none 0 0], .cel b2 26 [.slice x.2.1.1 x.1 x.2.1.2],JY 0 120 4 (KL path cl).length ((KL path cl).flatMap jZ) (lA_,lc),JY (Bs.N ⟨w,[]⟩) 77 1 x.1 (x.2.2.map Pc.val) x.2.1,vE x.2.2]) (0,(none,0),[]) (⟨jii _,J,fun j hj=>absurd hj (Nat.not_lt_zero j)⟩) ⟨J,sz⟩ (fun _ h=>h) ?_
   intro⟨k,⟨rA,rc⟩,l⟩ hx L hL1
   refine v9 ?_;refine r9 ?_
   obtain ⟨hk,hmp,hall⟩ :k≤(KL path cl).length∧l.map (·.xs) = ((KL path cl).take k).map (jko pen)∧∀j,j<k→WE (jko pen (lg (KL path cl) j)) =true:=hx
   have hlk:l.length=k:=by have:=congrArg List.length hmp;rw [jit,jit,jiy] at this;omega
   refine S8 ?_;refine cZ (fun c2=> ?_) (fun c2=> ?_)
   ·have hlt:k< (KL path cl).length:=Om
    have hlg:=QS hlo hlt
    have hsl:=jm3 hpen (lg (KL path cl) k)
    refine ky (fun w hs=>VJ (k:=2) J hs Om) ?_
    rintro⟨eg,rfl⟩
    refine S6 ?_;refine JS 17 ?_;refine dK 0 ?_;refine dK 1 ?_;refine dK 2 ?_;refine dK 3 ?_;refine dK 4 ?_;refine dZ 5 J (jk J J jj J (J5 (b:=eg) (o:=0) (fun w1 hs=>JC (k:=2) (x:= (some ⟨eg,0,none⟩,lc)) J J w1 hs) hlt)) ?_;refine dK 6 ?_;refine dK 7 ?_;refine dK 8 ?_;refine dK 9 ?_;refine dZ 10 J (jk J J jj J (JX (b:=eg) (o:=0) (fun w1 hs=>JC (k:=2) (x:= (some ⟨eg,0,none⟩,lc)) J J w1 hs) hlt)) ?_;refine qe (i:=11) J Dc Kr J ?_;refine J4 jme (v:=fun x=> .tuple #[.slice x.1 _ x.2, .bool _]) (r:=fun x=>JY 0 56 2 _ _ x) (H:=fun _=>True) J J J (lb J) (fun w1 hs=>jny (jnt A n c pen (lg (KL path cl) k) w1 (h.over hs.fin) hpen hlg)) ?_
    rintro⟨pA,pc⟩ -
    refine n9 ?_;refine Yq (u9 J) ?_;refine dK 12 ?_;refine dK 13 ?_;refine dK 14 ?_;refine dK 15 ?_;refine dK 16 ?_;refine JK Kr ?_;refine S7 ?_;refine cZ (fun c3=> ?_) (fun c3=> ?_)
    ·refine S2 ?_;refine a9 (JU J J (qg)) ?_;refine S11 ?_;refine qv J (qh (k:=0) J jG J J) (.tmp J) ?_
     intro w' hs
     obtain ⟨e1,e2⟩ :=jpk hB (jo6 hlt) (by simp_all)
     exact jkT e1 e2 hs.fin
    ·have hok:WE (jko pen (lg (KL path cl) k)) =true:=by simp_all
     refine S6 ?_;refine a9 (JU J J (Vs J)) ?_;refine S1 ?_;refine Jx J J (qH J) J (lb J) (fun b3=> ?_);refine N1 ?_;refine JV (k:=3) J jK Jw Dc J Dc J J J (fun w' hs=>Qb hs (k:=6) J J) (by simp [Value.oneCell']) (by unfold maxLen;omega) Om (jih _) (fun r1=> ?_);refine N4 ?_;refine ZY 5 J J (fun clo chi=> ?_);refine t9 ?_;refine wN 4 5 J J Dc J ?_;refine t9 ?_;refine S7 ?_
     exact Ji hL1 ((k+1,r1,l++ [⟨jko pen (lg (KL path cl) k),pA,pc,clo,chi⟩])) (⟨show k+1≤(KL path cl).length by omega,by rw [jiO,hmp,jmS hlt];rfl,fun j hj=> (jjk j k).elim (hall j) (fun h3=> (show k=j by omega)▸hok)⟩) (by simp only;omega) ⟨vi Om,sz⟩ (fun _ h=>h.upto ⟨J,J,J,by rw [jiO];rfl,(vT _ _).symm,trivial⟩)
   ·have hkn:k= (KL path cl).length:=Om
    have hrs:l.map (·.xs) =rwA pen path cl:=by rw [hmp,jiK Om];rfl
    have hsm:=jlM hpen (ls:=KL path cl) Om
    have hln: (rwA pen path cl).length=k:=by rw [←hrs,jit];exact hlk
    have hall2:=joR (P:=fun l=>WE (jko pen l) =true) (fun j hj=>hall j Om)
    refine S8 ?_;refine a9 (jT Ou J J (fun w1 hs=>jmP _ _ _ (rwA pen path cl) w1 (Il hs (kr:=3) (kp:=4) J J Dc J hlk hrs (fun i hi=>by have:=hsm.2 i hi;exact jjb this Dc)).rings (jjC hsm.total Dc))) ?_;refine S7 ?_;refine qv J (qh (k:=0) J jG J J) (.tmp J) ?_
    intro w' hs
    by_cases hr:JE (rwA pen path cl) =true
    ·obtain ⟨e1,e2⟩ :=jpm hB hall2 hr;rw [if_pos hr,if_pos hr,if_pos hr,show LM (rwA pen path cl) =0 from if_pos hr];exact jpn (l:=l) (x:= (rA,rc)) hs (kr:=3) (kp:=4) rfl rfl Dc e1 e2 hln hrs hs.fin
    ·obtain ⟨e1,e2⟩ :=joz hB hall2 (by simpa using hr);rw [if_neg hr,if_neg hr,if_neg hr,show LM (rwA pen path cl) =5 from if_neg hr];exact jkT e1 e2 hs.fin
theorem jm5 (A:Option Addr) (n c:Nat) (pen:List Pn) (B:Option Addr) (m d:Nat) (path:List Pn) (cl:Bool) (w:World) (h:Pts w A n pen) (h2:Pts w B m path) (hn: (n:Int)≤1048576) (hm: (m:Int)≤1048576) :
  Calls Tryz.prog 67 #[.slice A n c, .slice B m d, .bool cl] w fun e w'=>∃A' c',e= .returned (.tuple #[qT A' (rwR pen path cl).length c', .int .i64 (rwC pen path cl)])∧OwnG w.heap.size w'.heap.size w' A' (rwR pen path cl).length (rwR pen path cl)∧Over w w':= (jlN A n c pen B m d path cl w h h2 hn hm).mono fun _ _=>joB
theorem job (A:Option Addr) (n c:Nat) (pen:List Pn) (B:Option Addr) (m d:Nat) (path:List Pn) (cl:Bool) (w:World) (h:Pts w A n pen) (h2:Pts w B m path) (hn: (n:Int)≤1048576) (hm: (m:Int)≤1048576) :
  Calls Tryz.prog 65 #[.slice A n c, .slice B m d, .bool cl] w fun e w'=>∃A' c',e= .returned (.tuple #[qT A' (rwR pen path cl).length c', .int .i64 (rwC pen path cl)])∧OwnG w.heap.size w'.heap.size w' A' (rwR pen path cl).length (rwR pen path cl)∧Over w w':= (jnk A n c pen B m d path cl w h h2 hn hm).mono fun _ _=>joB
end Go.Proofs.YtpncbbcmoiiipaaGreat
