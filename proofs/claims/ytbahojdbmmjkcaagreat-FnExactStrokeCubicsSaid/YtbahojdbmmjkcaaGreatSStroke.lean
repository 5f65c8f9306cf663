import Derived.Test.YtbahojdbmmjkcaaGreatSPen
set_option linter.unusedVariables false
set_option linter.unusedSimpArgs false
namespace Go.Proofs.YtbahojdbmmjkcaaGreat
open Go Go.RowKit
variable {K:Act→World→Prop} {Rs:List Res} {cl:Bool} {cs:List Value} {env:List (Nat×Value)} {f:Leg→Jp} {k:Nat} {ls:List Leg} {path pen xs:List Pn} {w w':World} {x:Option Addr×Nat}
set_option maxRecDepth 100000
set_option maxHeartbeats 4000000
theorem DC {n:Nat} {w0:Bs} (k s m:Nat) (hX:w0.X= []) {b U:Nat} (hk:Rs[k]? =some (.cel b U cs)) (hl:cs.length=m*s) (hm:m≤maxLen) (h:At n env w0 (Rs.set k (.row w0.N U s (.slice (some ⟨b,0,none⟩) m m) m cs)) K) :At n env w0 Rs K:=fun a w hf hs=>by
 have hlow:w0.N≤b:= ((hs.all k _ hk).2.1 b rfl).elim id (fun h=>by rw [hX] at h;cases h)
 refine h a w hf (hs.chg hk (fun hP=> ?_) (fun c hc=> ?_) J)
 ·exact⟨hl, .inr ⟨b,m,cs.toArray,rfl,hlow,hP,jif _,hm,by simp [hl],by simp [←hl]⟩⟩
 ·have:some b=some c:=hc
  injection this with this
  exact this.symm
def D3 (p q:Pn) :Leg:=⟨p.1,p.2,q.1,q.2⟩
def UD (xs:List Pn) :Nat→List Leg
 | 0=> []
 | k+1=>UD xs k++ [D3 (pt xs k) (pt xs (k+1))]
theorem wQ (xs:List Pn) :∀k,(UD xs k).length=k
 | 0=>rfl
 | k+1=>by rw [UD,jid,wQ xs k];rfl
def Qf (xs:List Pn) (cl:Bool) :List Leg:=if xs.length=1 then [D3 (pt xs 0) (pt xs 0)] else UD xs (xs.length- 1) ++ (if(cl&&decide (2<xs.length)) =true then [D3 (pt xs (xs.length- 1)) (pt xs 0)] else [])
theorem jc2 (h:xs.length=1) :Qf xs cl= [D3 (pt xs 0) (pt xs 0)] :=if_pos h
theorem jfQ (h:¬xs.length=1) (h2: (cl&&decide (2<xs.length)) =true) :Qf xs cl=UD xs (xs.length- 1) ++ [D3 (pt xs (xs.length- 1)) (pt xs 0)] :=by rw [Qf,if_neg h,if_pos h2]
theorem CP (h:¬xs.length=1) (h2: (cl&&decide (2<xs.length)) =false) :Qf xs cl=UD xs (xs.length- 1) :=by rw [Qf,if_neg h,if_neg (by rw [h2];decide),jiC]
theorem Po (xs:List Pn) (cl:Bool) : (Qf xs cl).length≤xs.length+1:=by
 unfold Qf
 split
 ·simp
 ·rw [jid,wQ]
  split<;>simp<;>omega
theorem Ob {p q:Pn} (hp:bd2 p) (hq:bd2 q) :qU (D3 p q) :=⟨hp.1,hp.2,hq.1,hq.2⟩
theorem SX {xs:List Pn} (h:∀p∈xs,bd2 p) :∀k,k<xs.length→∀l∈UD xs k,qU l
 | 0,_,l,hl=>by simp [UD] at hl
 | k+1,hk,l,hl=>by
  unfold UD at hl
  rcases jit.1 hl with h1 | h1
  ·exact SX h k Om l h1
  ·rw [jin.1 h1]
   exact Ob (h _ (Ws Om)) (h _ (Ws Om))
theorem jfR (h:∀p∈xs,bd2 p) (h0:0<xs.length) :∀l∈Qf xs cl,qU l:=by
 intro l hl
 unfold Qf at hl
 split at hl
 ·rw [jin.1 hl]
  exact Ob (h _ (Ws h0)) (h _ (Ws h0))
 ·rcases jit.1 hl with h1 | h1
  ·exact SX h _ Om l h1
  ·split at h1
   ·rw [jin.1 h1]
    exact Ob (h _ (Ws Om)) (h _ (Ws h0))
   ·simp at h1
theorem HV (xs:List Pn) (k:Nat) : (UD xs (k+1)).flatMap Je= (UD xs k).flatMap Je++ [.int .i64 (px xs k), .int .i64 (py xs k), .int .i64 (px xs (k+1)), .int .i64 (py xs (k+1))] :=by
 rw [UD,jii]
 rfl
theorem NZ (A:Option Addr) (n c:Nat) (xs:List Pn) (cl:Bool) (w:World) (h:Pts w A n xs) (h0:0<n) (hn:n≤1048576) :
  Calls Tryz.prog 211 #[.slice A n c, .bool cl] w fun e w'=>∃v,e= .returned v∧w'.ownsRow w.heap.size 96 4 v (Qf xs cl).length ((Qf xs cl).flatMap Je)∧Over w w':=by
 have hl:=h.1
 obtain ⟨eb,eo,rfl,_⟩ :=h.2 h0
 refine jK (m:=57) (Tryz.func211) J J (lb J) ?_;refine S11 ?_;refine cZ (fun c1=> ?_) (fun c1=> ?_)
 ·refine S2 ?_;refine JH 9 ?_;refine dK 0 ?_;refine dZ 1 J (jH (j:=0) J J J jl Om) ?_;refine dZ 2 J (jk J J jj J (Q4 h h0)) ?_;refine dK 3 ?_;refine dZ 4 J (jH (j:=0) J J J jl Om) ?_;refine dZ 5 J (jk J J jj J (Q4 h h0)) ?_;refine dZ 6 J (JF J J (vh J J)) ?_;refine qd (i:=7) J Dc Kr J ?_;refine jX J J (Qy J) J (lb J) (fun b1=> ?_);refine n9 ?_;refine JU (u9 J) ?_;refine dK 8 ?_;refine JB Kr ?_;refine DC 0 4 1 J J J (by unfold maxLen;omega) ?_;refine t9 ?_;refine S3 ?_;refine jJ J (.tmp J) ?_
  intro w' hs
  have h1:=jc2 (xs:=xs) (cl:=cl) Om
  exact⟨_,rfl,by rw [h1];exact Wt hs (k:=0) (x:= (some ⟨b1,0,none⟩,1)) rfl,hs.fin⟩
 ·refine S5 ?_;refine Q7 (T:=96) (s:=4) ?_;refine N7 ?_;refine JE (X:=Nat×Option Addr×Nat) (fun x=>1≤x.1∧x.1≤n) (fun x=>n- x.1) (fun x=> [(5, .slice x.2.1 (x.1- 1) x.2.2),(6, .int .i64 (x.1:Int))]) (kK [0,1,4]) (fun x=> [JS (Bs.N ⟨w,[]⟩) 96 4 (x.1- 1) ((UD xs (x.1- 1)).flatMap Je) x.2]) (1,none,0) (⟨jif _,h0⟩) ⟨J,sz⟩ (fun _ h=>h) ?_
  intro⟨k,rA,rc⟩ hk L hL1
  refine v9 ?_;refine r9 ?_
  obtain ⟨hk1,hk2⟩ :1≤k∧k≤n:=hk
  refine S8 ?_;refine cZ (fun c2=> ?_) (fun c2=> ?_)
  ·have hlt:k<n:=Om
   refine S5 ?_;refine JH 12 ?_;refine dK 0 ?_;refine dV 1 [4,5,10,11] ?_;refine dV 2 [3,4,5,10,11] ?_;refine d9 3 J [4,5,10,11] (u9 J) ((JC J J J Om Om).as (congrArg _ (show((k:Int) - 1) = ((k- 1:Nat) :Int) by omega))) ?_;refine dV 4 [5,10,11] ?_;refine d9 5 J [10,11] (u9 J) (jk J J jj J (Q4 h Om)) ?_;refine dV 6 [8,9,10,11] ?_;refine dV 7 [8,9,10,11] ?_;refine dV 8 [9,10,11] ?_;refine d9 9 J [10,11] (u9 J) (jk J J jj J (Q4 h hlt)) ?_;refine d9 10 J [11] (u9 J) (JF J J (vh J J)) ?_;refine qd (i:=11) J Dc Kr J ?_;refine jX J J (Qy J) J (lb J) (fun b2=> ?_);refine n9 ?_;refine JU (u9 J) ?_;refine kN J Kr J ?_;refine JK (k:=0) J Jf qg Dc J Dc J J J (fun w' hs=>qD hs (k:=1) J J) (by simp [Value.oneCell']) (by unfold maxLen;omega) Om (jif _) (fun r1=> ?_);refine n9 ?_;refine JH 14 ?_;refine dK 13 ?_;refine JB Kr ?_;refine S7 ?_
   exact Jd hL1 ((k+1,r1)) (⟨show 1≤k+1 by omega,show k+1≤n by omega⟩) (by simp only;omega) ⟨(by show _=some (Value.slice r1.1 (k+1- 1) r1.2);rw [show k+1- 1=k- 1+1 by omega];rfl),vi Om,sz⟩ (fun _ h=>h.upto ⟨by dsimp only;rw [show k+1- 1=k- 1+1 by omega,HV,show k- 1+1=k by omega],trivial⟩)
  ·have hkn:k=n:=Om
   subst hkn
   refine S10 ?_;refine cV 38 (fun g1=> ?_) (fun g1=> ?_)
   ·refine S8 ?_;refine cZ (fun c3=> ?_) (fun c3=> ?_)
    ·have hcl:=jfQ (xs:=xs) (cl:=cl) Om (by simp_all;omega)
     refine S1 ?_;refine JH 12 ?_;refine dK 0 ?_;refine dV 1 [5,6,10,11] ?_;refine dV 2 [3,4,5,6,10,11] ?_;refine dV 3 [4,5,6,10,11] ?_;refine d9 4 J [5,6,10,11] (u9 J) ((JC J J J Om Om).as (congrArg _ (show((k:Int) - 1) = ((k- 1:Nat) :Int) by omega))) ?_;refine dV 5 [6,10,11] ?_;refine d9 6 J [10,11] (u9 J) (jk J J jj J (Q4 h Om)) ?_;refine dV 7 [8,9,10,11] ?_;refine d9 8 J [9,10,11] (u9 J) (jH (j:=0) J J J jl Om) ?_;refine d9 9 J [10,11] (u9 J) (jk J J jj J (Q4 h h0)) ?_;refine d9 10 J [11] (u9 J) (JF J J (vh J J)) ?_;refine qd (i:=11) J Dc Kr J ?_;refine jX J J (Qy J) J (lb J) (fun b3=> ?_);refine n9 ?_;refine JU (u9 J) ?_;refine kN J Kr J ?_;refine JK (k:=0) J Jf qg Dc J Dc J J J (fun w' hs=>qD hs (k:=1) J J) (by simp [Value.oneCell']) (by unfold maxLen;omega) Om (jif _) (fun r2=> ?_);refine n9 ?_;refine JH 14 ?_;refine dK 13 ?_;refine JB Kr ?_;refine S7 ?_;refine jJ J (.tmp J) ?_
     intro w' hs
     exact⟨_,rfl,by rw [hcl,jid,wQ,jii,hl];exact Wt hs (k:=0) rfl,hs.fin⟩
    ·refine S8 ?_;refine jJ J (.tmp J) ?_
     intro w' hs
     have hop:=CP (xs:=xs) (cl:=cl) Om (by simp [*];omega)
     exact⟨_,rfl,by rw [hop,wQ,hl];exact Wt hs (k:=0) rfl,hs.fin⟩
   ·refine S14 ?_;refine jJ J (.tmp J) ?_
    intro w' hs
    have hop:=CP (xs:=xs) (cl:=cl) Om (by simp [*])
    exact⟨_,rfl,by rw [hop,wQ,hl];exact Wt hs (k:=0) rfl,hs.fin⟩
theorem SQ (A:Option Addr) (n c:Nat) (xs:List Pn) (cl:Bool) (w:World) (h:Pts w A n xs) (h0:0<n) (hn:n≤1048576) :
  Calls Tryz.prog 200 #[.slice A n c, .bool cl] w fun e w'=>∃v,e= .returned v∧w'.ownsRow w.heap.size 147 4 v (Qf xs cl).length ((Qf xs cl).flatMap Je)∧Over w w':=by
 have hl:=h.1
 obtain ⟨eb,eo,rfl,_⟩ :=h.2 h0
 refine jK (m:=58) (Tryz.func200) J J (lb J) ?_;refine S7 ?_;refine jX J J (WI) J (lb J) (fun b1=> ?_);refine KQ 0 4 J J ?_;refine N14 ?_;refine cZ (fun c1=> ?_) (fun c1=> ?_)
 ·refine S2 ?_;refine JH 9 ?_;refine dK 0 ?_;refine dZ 1 J (jH (j:=0) J J J jl Om) ?_;refine dZ 2 J (jk J J jj J (Q4 h h0)) ?_;refine dK 3 ?_;refine dZ 4 J (jH (j:=0) J J J jl Om) ?_;refine dZ 5 J (jk J J jj J (Q4 h h0)) ?_;refine dZ 6 J (JF J J (Kb J J)) ?_;refine qd (i:=7) J Dc Kr J ?_;refine jX J J (kg J) J (lb J) (fun b2=> ?_);refine n9 ?_;refine JU (u9 J) ?_;refine dK 8 ?_;refine JB Kr ?_;refine DC 1 4 1 J J J (by unfold maxLen;omega) ?_;refine t9 ?_;refine S3 ?_;refine jJ J (.tmp J) ?_
  intro w' hs
  have h1:=jc2 (xs:=xs) (cl:=cl) Om
  exact⟨_,rfl,by rw [h1];exact Wt hs (k:=1) (x:= (some ⟨_,0,none⟩,1)) rfl,hs.fin⟩
 ·refine S8 ?_;refine JE (X:=Nat×Option Addr×Nat) (fun x=>x.1+1≤n) (fun x=>n- x.1) (fun x=> [(5, .slice x.2.1 x.1 x.2.2),(7, .int .i64 (x.1:Int))]) (kK [0,1,4,6]) (fun x=> [JS (Bs.N ⟨w,[]⟩) 147 4 x.1 ((UD xs x.1).flatMap Je) x.2]) (0,some ⟨b1,0,none⟩,0) (h0) ⟨J,sz⟩ (fun _ h=>h) ?_
  intro⟨k,rA,rc⟩ hk L hL1
  refine v9 ?_;refine r9 ?_
  have hk1:k+1≤n:=hk
  refine S8 ?_;refine cZ (fun c2=> ?_) (fun c2=> ?_)
  ·have hlt:k+1<n:=Om
   refine S5 ?_;refine JH 12 ?_;refine dK 0 ?_;refine dV 1 [3,4,10,11] ?_;refine dV 2 [3,4,10,11] ?_;refine dV 3 [4,10,11] ?_;refine d9 4 J [10,11] (u9 J) (jk J J jj J (Q4 h Om)) ?_;refine dV 5 [8,9,10,11] ?_;refine dV 6 [7,8,9,10,11] ?_;refine d9 7 J [8,9,10,11] (u9 J) ((jT J J J Om Om).as (congrArg _ (show((k:Int) +1) = ((k+1:Nat) :Int) by omega))) ?_;refine dV 8 [9,10,11] ?_;refine d9 9 J [10,11] (u9 J) (jk J J jj J (Q4 h hlt)) ?_;refine d9 10 J [11] (u9 J) (JF J J (Kb J J)) ?_;refine qd (i:=11) J Dc Kr J ?_;refine jX J J (kg J) J (lb J) (fun b3=> ?_);refine n9 ?_;refine JU (u9 J) ?_;refine kN J Kr J ?_;refine JK (k:=0) J Ju Qx Dc J Dc J J J (fun w' hs=>qD hs (k:=1) J J) (by simp [Value.oneCell']) (by unfold maxLen;omega) Om (jif _) (fun r1=> ?_);refine n9 ?_;refine JH 14 ?_;refine dK 13 ?_;refine JB Kr ?_;refine S7 ?_
   exact Jd hL1 ((k+1,r1)) ((show k+1+1≤n by omega)) (by simp only;omega) ⟨J,vi Om,sz⟩ (fun _ h=>h.upto ⟨by rw [HV],trivial⟩)
  ·have hkn:k=n- 1:=Om
   subst hkn
   refine S10 ?_;refine cV 41 (fun g1=> ?_) (fun g1=> ?_)
   ·refine S6 ?_;refine cZ (fun c3=> ?_) (fun c3=> ?_)
    ·have hcl:=jfQ (xs:=xs) (cl:=cl) Om (by simp_all;omega)
     refine S1 ?_;refine JH 11 ?_;refine dK 0 ?_;refine dV 1 [4,5,9,10] ?_;refine dV 2 [3,4,5,9,10] ?_;refine d9 3 J [4,5,9,10] (u9 J) ((JC J J J Om Om).as (congrArg _ (show((n:Int) - 1) = ((n- 1:Nat) :Int) by omega))) ?_;refine dV 4 [5,9,10] ?_;refine d9 5 J [9,10] (u9 J) (jk J J jj J (Q4 h Om)) ?_;refine dV 6 [7,8,9,10] ?_;refine d9 7 J [8,9,10] (u9 J) (jH (j:=0) J J J jl Om) ?_;refine d9 8 J [9,10] (u9 J) (jk J J jj J (Q4 h h0)) ?_;refine d9 9 J [10] (u9 J) (JF J J (Kb J J)) ?_;refine qd (i:=10) J Dc Kr J ?_;refine jX J J (kg J) J (lb J) (fun b4=> ?_);refine n9 ?_;refine JU (u9 J) ?_;refine kN J Kr J ?_;refine JK (k:=0) J Ju Qx Dc J Dc J J J (fun w' hs=>qD hs (k:=1) J J) (by simp [Value.oneCell']) (by unfold maxLen;omega) Om (jif _) (fun r2=> ?_);refine n9 ?_;refine JH 13 ?_;refine dK 12 ?_;refine JB Kr ?_;refine S7 ?_;refine jJ J (.tmp J) ?_
     intro w' hs
     exact⟨_,rfl,by rw [hcl,jid,wQ,jii,hl];exact Wt hs (k:=0) rfl,hs.fin⟩
    ·refine S8 ?_;refine jJ J (.tmp J) ?_
     intro w' hs
     have hop:=CP (xs:=xs) (cl:=cl) Om (by simp [*];omega)
     exact⟨_,rfl,by rw [hop,wQ,hl];exact Wt hs (k:=0) rfl,hs.fin⟩
   ·refine S13 ?_;refine jJ J (.tmp J) ?_
    intro w' hs
    have hop:=CP (xs:=xs) (cl:=cl) Om (by simp [*])
    exact⟨_,rfl,by rw [hop,wQ,hl];exact Wt hs (k:=0) rfl,hs.fin⟩
def wG (pen:List Pn) (l:Leg) :List Pn:=kW (vX pen [lA l,lB l])
theorem Bq (h:Us pen=true) (l:Leg) :0< (wG pen l).length∧(wG pen l).length≤64:=by
 refine⟨jb8 ?_,jfs h _ _⟩
 have:= (OP h).1
 rw [XU]
 exact Nat.mul_pos Om (show 0<2 by decide)
theorem Im (A:Option Addr) (n c:Nat) (pen:List Pn) (l:Leg) (w:World) (h:Pts w A n pen) (hpen:Us pen=true) (hl:qU l) :
  Calls Tryz.prog 201 #[.slice A n c,ub l.ax l.ay,ub l.bx l.b_y] w fun e w'=>∃x:Option Addr×Nat,e= .returned (.tuple #[.slice x.1 (wG pen l).length x.2, .bool (QJ (wG pen l))])∧w'.ownsRow w.heap.size 28 2 (.slice x.1 (wG pen l).length x.2) (wG pen l).length ((wG pen l).flatMap jV)∧Over w w':=
 Il A n c pen (lA l) (lB l) w h hpen (VR hl) (wP hl)
def Pt (pen path:List Pn) :Bool:=Us pen&&q6 path
def Ry (pen path:List Pn) (cl:Bool) :List Jp:= (Qf path cl).map (wG pen)
def G9 (pen path:List Pn) (cl:Bool) :Int:=if Pt pen path=true then(if((Qf path cl).all fun l=>QJ (wG pen l)) =true then yf (Ry pen path cl) else 2) else 1
def uy (pen path:List Pn) (cl:Bool) :List Jp:=if G9 pen path cl=0 then Ry pen path cl else []
theorem C6 (h:Pt pen path=false) :G9 pen path cl=1∧uy pen path cl= [] :=by simp [uy,G9,h]
theorem jdp {l:Leg} (h:Pt pen path=true) (hl:l∈Qf path cl) (hb:QJ (wG pen l) =false) :G9 pen path cl=2∧uy pen path cl= [] :=by
 have h1: ((Qf path cl).all fun l=>QJ (wG pen l)) =false:=List.all_eq_false.2 ⟨l,hl,by rw [hb];decide⟩
 have h2:G9 pen path cl=2:=by rw [G9,if_pos h,if_neg (by rw [h1];decide)]
 exact⟨h2,by rw [uy,if_neg (by rw [h2];decide)]⟩
theorem jdo (h:Pt pen path=true) (ha:∀l∈Qf path cl,QJ (wG pen l) =true) :G9 pen path cl=yf (Ry pen path cl) :=by
 rw [G9,if_pos h,if_pos (jjo.2 ha)]
theorem C5 (h:Pt pen path=true) (ha:∀l∈Qf path cl,QJ (wG pen l) =true) (hr:J0 (Ry pen path cl) =false) :G9 pen path cl=5∧uy pen path cl= [] :=by
 have h2:G9 pen path cl=5:=by rw [jdo h ha];simp [yf,hr]
 exact⟨h2,by rw [uy,if_neg (by rw [h2];decide)]⟩
theorem jdr (h:Pt pen path=true) (ha:∀l∈Qf path cl,QJ (wG pen l) =true) (hr:J0 (Ry pen path cl) =true) :G9 pen path cl=0∧uy pen path cl=Ry pen path cl:=by
 have h2:G9 pen path cl=0:=by rw [jdo h ha];simp [yf,hr]
 exact⟨h2,by rw [uy,if_pos h2]⟩
theorem jgB (h:k<ls.length) :rg (ls.map f) k=f (lg ls k) :=by
 rw [←Wc (by simpa using h),jje,Uf h]
theorem Of (h:k<ls.length) : (ls.take (k+1)).map f= (ls.take k).map f++ [f (lg ls k)] :=by
 rw [jik h,jiG,Uf h]
 rfl
theorem xE (h:Us pen=true) (hl:ls.length≤2000) :smallR (ls.map (wG pen)) :=by
 refine⟨by rw [jip];exact hl,fun j hj=> ?_⟩
 rw [jip] at hj
 rw [jgB hj]
 have:= (Bq h (lg ls j)).2
 omega
theorem Fu (pen path:List Pn) (cl:Bool) :smallR (uy pen path cl) :=by
 unfold uy
 split
 ·rename_i h
  unfold G9 at h
  split at h
  ·rename_i h1
   simp only [Pt,jig] at h1
   have h2:= (I1 h1.2).1
   have h3:=Po path cl
   exact xE h1.1 Om
  ·omega
 ·exact smallR.nil
theorem jbl {P:Leg→Prop} (h:∀j,j<ls.length→P (lg ls j)) :∀l∈ls,P l:=by
 intro l hl
 obtain ⟨j,hj,rfl⟩ :=jiU hl
 rw [Uf hj]
 exact h j hj
theorem jcn (h:k<ls.length) :lg ls k∈ls:=by rw [←Uf h];exact jir h
abbrev RwP (pen path:List Pn) (cl:Bool) (e:Ending) (w w':World) :Prop:=∃x: (Option Addr×Nat)×List Pc,e= .returned (.tuple #[qG x.1.1 (uy pen path cl).length x.1.2, .int .i64 (G9 pen path cl)])∧Over w w'∧(rpR 74 (uy pen path cl).length x).P w'∧(∀b,(rpR 74 (uy pen path cl).length x).F b→w.heap.size≤b)∧(rpR 74 (uy pen path cl).length x).B=0∧x.2.map (·.xs) =uy pen path cl
theorem UN {k:Int} (h1:G9 pen path cl=k) (h2:uy pen path cl= []) (ho:Over w w') :RwP pen path cl (.returned (.tuple #[qG none 0 0, .int .i64 k])) w w':=by
 have hF:∀b,¬(rpR 74 0 ((none,0),[])).F b:=fun b hb=>by
  obtain ⟨r,hr,hb⟩ :=hb
  simp only [jis,ji3,or_false] at hr
  rcases hr with rfl | rfl
  ·exact absurd (show Value.ownBlock (.slice none 0 0) =some b from hb) (by simp [Value.ownBlock])
  ·obtain ⟨r,hr,_⟩ :=hb
   simp at hr
 refine⟨((none,0),[]),by rw [h1,h2];rfl,ho,?_,?_,J,by rw [h2];rfl⟩
 ·rw [h2]
  exact jfN (World.ownsRow_nil _ _ _ _:World.ownsRow w' 0 74 1 (.slice none 0 0) 0 []) ⟨fun r hr=>absurd hr (by simp),List.Pairwise.nil⟩ rfl rfl fun b hb _=>absurd (show Value.ownBlock (.slice none 0 0) =some b from hb) (by simp [Value.ownBlock])
 ·rw [h2]
  exact fun b hb=>absurd hb (hF b)
theorem jds (hs:St ⟨w,[]⟩ Rs w') {kr kp B:Nat} {l:List Pc} (hr:Rs[kr]? =some (JS B 74 1 k (l.map Pc.val) x)) (hp:Rs[kp]? =some (vu l)) (hne:kr≠kp) (h1:G9 pen path cl=0) (h2:uy pen path cl=Ry pen path cl) (hln: (Ry pen path cl).length=k) (hrs:l.map (·.xs) =Ry pen path cl) (ho:Over w w') :RwP pen path cl (.returned (.tuple #[qG x.1 k x.2, .int .i64 0])) w w':=by
 obtain ⟨p1,p2⟩ :=jg1 hs hr hp hne
 exact⟨(x,l),by rw [h1,h2,hln],ho,by rw [h2,hln];exact p1,by rw [h2,hln];exact p2,rfl,by rw [h2];exact hrs⟩
theorem jg7 {r s:Res} (ho:Over w w') (hP: (Res.many [r,s]).P w') (hF:∀b,(Res.many [r,s]).F b→w.heap.size≤b) :St ⟨w,[]⟩ [r,s] w':=by
 obtain ⟨h1,h2⟩ :=hP
 have hap:∀b,r.F b→¬s.F b:=by simpa using h2
 refine⟨Ovx.of ho,fun i q hi=> ?_,fun i j q t hne hi hj b hb hb2=> ?_⟩
 ·have hm:=List.mem_of_getElem? hi
  exact⟨(h1 q hm).1,fun b hb=> .inl (hF b ⟨q,hm,hb⟩),by rw [(h1 q hm).2];exact jie _,fun b hb=>by cases hb⟩
 ·match i,j,hne,hi,hj with
  | 0,0,hne,_,_=>exact hne rfl
  | 1,1,hne,_,_=>exact hne rfl
  | 0,1,_,hi,hj=>simp at hi hj;subst hi hj;exact hap b hb hb2
  | 1,0,_,hi,hj=>simp at hi hj;subst hi hj;exact hap b hb2 hb
  | n+2,_,_,hi,_=>simp at hi
  | _,n+2,_,_,hj=>simp at hj
theorem C7 {e:Ending} (h:RwP pen path cl e w w') :∃A' c',e= .returned (.tuple #[qG A' (uy pen path cl).length c', .int .i64 (G9 pen path cl)])∧OwnG w.heap.size w'.heap.size w' A' (uy pen path cl).length (uy pen path cl)∧Over w w':=by
 obtain ⟨x,rfl,ho,hP,hF,_,hx⟩ :=h
 refine⟨x.1.1,x.1.2,J,?_,ho⟩
 exact XM (jg7 ho hP hF) (kr:=0) (kp:=1) (l:=x.2) (x:=x.1) rfl rfl Dc rfl (by have:=congrArg List.length hx;rwa [jip] at this) hx fun j hj=>jiY ((Fu pen path cl).2 j hj) Dc
theorem FQ (A:Option Addr) (n c:Nat) (pen:List Pn) (B:Option Addr) (m d:Nat) (path:List Pn) (cl:Bool) (w:World) (h:Pts w A n pen) (h2:Pts w B m path) (hn: (n:Int)≤1048576) (hm: (m:Int)≤1048576) :
  Calls Tryz.prog 146 #[.slice A n c, .slice B m d, .bool cl] w fun e w'=>RwP pen path cl e w w':=by
 have hl:=h.1
 have hl2:=h2.1
 refine jK (m:=56) (Tryz.func146) J J (lb J) ?_;refine S3 ?_;refine aL (fun b1=> ?_);refine N6 ?_;refine a9 (jG ZU J J (fun w1 hs=>Dz A n c pen w1 (h.over hs.fin) hn)) ?_;refine S2 ?_;refine cV 16 (fun g1=> ?_) (fun g1=> ?_)
 ·refine S8 ?_;refine a9 (JF J J (JJ)) ?_;refine S6 ?_;refine JX J (JZ (k:=0) J jE J J) (.tmp J) ?_
  intro w' hs
  obtain ⟨e1,e2⟩ :=C6 (pen:=pen) (path:=path) (cl:=cl) (by simp_all [Pt])
  exact UN e1 e2 hs.fin
 ·refine S3 ?_;refine o9 (jG zD J J (fun w1 hs=>MY B m d path w1 (h2.over hs.fin) Om)) ?_;refine S4 ?_;refine cZ (fun c1=> ?_) (fun c1=> ?_)
  ·refine S2 ?_;refine a9 (JF J J (JJ)) ?_;refine S6 ?_;refine JX J (JZ (k:=0) J jE J J) (.tmp J) ?_
   intro w' hs
   obtain ⟨e1,e2⟩ :=C6 (pen:=pen) (path:=path) (cl:=cl) (by simp_all [Pt])
   exact UN e1 e2 hs.fin
  ·have hpen:Us pen=true:=by simp_all
   have hpath:q6 path=true:=by simp_all
   have hB:Pt pen path=true:=by rw [Pt,hpen,hpath];rfl
   obtain ⟨kb,kb2⟩ :=I1 hpath
   have hlo:=jfR (cl:=cl) kb2 Om
   have hll:=Po path cl
   obtain ⟨ka,ka2,_⟩ :=OP hpen
   refine S5 ?_;refine aL (fun b2=> ?_);refine N7 ?_;refine JQ On (v:=fun x=> .slice x.1 _ x.2) (r:=fun x=>JS 0 96 4 _ _ x) (H:=fun _=>True) J J J (lb J) (fun w1 hs=>qI (NZ B m d path cl w1 (h2.over hs.fin) Om Om)) ?_
   rintro⟨lA_,lc⟩ -
   refine N3 ?_;refine Q7 (T:=74) (s:=1) ?_;refine t9 ?_;refine Vl ?_;refine t9 ?_;refine S1 ?_;refine JE (X:=Nat×(Option Addr×Nat)×List Pc) (fun x=>x.1≤(Qf path cl).length∧x.2.2.map (·.xs) = ((Qf path cl).take x.1).map (wG pen)∧∀j,j<x.1→QJ (wG pen (lg (Qf path cl) j)) =true) (fun x=> (Qf path cl).length- x.1) (fun x=> [(26, .int .i64 (x.1:Int))]) (kK [0,6,7,8,24,25]) (fun x=> [.cel b1 26 [.slice none 0 0], .cel b2 26 [.slice x.2.1.1 x.1 x.2.1.2],JS 0 96 4 (Qf path cl).length ((Qf path cl).flatMap Je) (lA_,lc),JS (Bs.N ⟨w,[]⟩) 74 1 x.1 (x.2.2.map Pc.val) x.2.1,vu x.2.2]) (0,(none,0),[]) (⟨jie _,J,fun j hj=>absurd hj (jjP j)⟩) ⟨J,sz⟩ (fun _ h=>h) ?_
   intro⟨k,⟨rA,rc⟩,l⟩ hx L hL1
   refine v9 ?_;refine r9 ?_
   obtain ⟨hk,hmp,hall⟩ :k≤(Qf path cl).length∧l.map (·.xs) = ((Qf path cl).take k).map (wG pen)∧∀j,j<k→QJ (wG pen (lg (Qf path cl) j)) =true:=hx
   have hlk:l.length=k:=by have:=congrArg List.length hmp;rw [jip,jip,jim] at this;omega
   refine S5 ?_;refine cZ (fun c2=> ?_) (fun c2=> ?_)
   ·have hlt:k< (Qf path cl).length:=Om
    have hlg:=kk hlo hlt
    have hsl:=Bq hpen (lg (Qf path cl) k)
    refine qR (fun w hs=>kI (k:=2) J hs Om) ?_
    rintro⟨eg,rfl⟩
    refine S7 ?_;refine a9 (jk J J qx J (yx (fun w1 hs=>vJ (k:=2) (x:= (some ⟨eg,0,none⟩,lc)) J J w1 hs) hlt)) ?_;refine S1 ?_;refine aL (fun b3=> ?_);refine N11 ?_;refine jX J J (Kc J J) J (lb J) (fun b4=> ?_);refine N1 ?_;refine JQ Oo (v:=fun x=> .tuple #[.slice x.1 _ x.2, .bool _]) (r:=fun x=>JS 0 28 2 _ _ x) (H:=fun _=>True) J J J (lb J) (fun w1 hs=>IJ (PG A n c pen _ 2 2 [lA (lg (Qf path cl) k),lB (lg (Qf path cl) k)] w1 (h.over hs.fin) (zS [lA (lg (Qf path cl) k),lB (lg (Qf path cl) k)] (k:=6) J J w1 hs) (Mp ka2) (CL (VR hlg) (wP hlg)) Om Om)) ?_
    rintro⟨pA,pc⟩ -
    refine N12 ?_;refine cZ (fun c3=> ?_) (fun c3=> ?_)
    ·refine S2 ?_;refine a9 (JF J J (JJ)) ?_;refine S11 ?_;refine JX J (JZ (k:=0) J jE J J) (.tmp J) ?_
     intro w' hs
     obtain ⟨e1,e2⟩ :=jdp hB (jcn hlt) (by simp_all [wG])
     exact UN e1 e2 hs.fin
    ·have hok:QJ (wG pen (lg (Qf path cl) k)) =true:=by simp_all [wG]
     refine S6 ?_;refine a9 (JF J J (KW J)) ?_;refine S1 ?_;refine jX J J (qN J) J (lb J) (fun b5=> ?_);refine N1 ?_;refine JK (k:=3) J jS JA Dc J Dc J J J (fun w' hs=>qD hs (k:=8) J J) (by simp [Value.oneCell']) (by unfold maxLen;omega) Om (jif _) (fun r1=> ?_);refine N4 ?_;refine ZM 7 J J (fun clo chi=> ?_);refine t9 ?_;refine Wb 4 7 J J Dc J ?_;refine t9 ?_;refine S6 ?_
     exact Jd hL1 ((k+1,r1,l++ [⟨wG pen (lg (Qf path cl) k),pA,pc,clo,chi⟩])) (⟨show k+1≤(Qf path cl).length by omega,by rw [jiG,hmp,Of hlt];rfl,fun j hj=> (ji9 j k).elim (hall j) (fun h3=> (show k=j by omega)▸hok)⟩) (by simp only;omega) ⟨vi Om,sz⟩ (fun _ h=>h.upto ⟨J,J,J,by rw [jiG];rfl,(vZ _ _).symm,trivial⟩)
   ·have hkn:k= (Qf path cl).length:=Om
    have hrs:l.map (·.xs) =Ry pen path cl:=by rw [hmp,jiu Om];rfl
    have hsm:=xE hpen (ls:=Qf path cl) Om
    have hln: (Ry pen path cl).length=k:=by rw [←hrs,jip];exact hlk
    have hall2:=jbl (P:=fun l=>QJ (wG pen l) =true) (fun j hj=>hall j Om)
    refine S9 ?_;refine a9 (jG Kv J J (fun w1 hs=>Lr _ _ _ (Ry pen path cl) w1 (XM hs (kr:=3) (kp:=4) J J Dc J hlk hrs (fun i hi=>by have:=hsm.2 i hi;exact jiY this Dc)).rings (jjs hsm.total Dc))) ?_;refine S2 ?_;refine cZ (fun c4=> ?_) (fun c4=> ?_)
    ·refine S2 ?_;refine a9 (JF J J (JJ)) ?_;refine S6 ?_;refine JX J (JZ (k:=0) J jE J J) (.tmp J) ?_
     intro w' hs
     obtain ⟨e1,e2⟩ :=C5 hB hall2 (by simp_all)
     exact UN e1 e2 hs.fin
    ·refine S10 ?_;refine JX J (JZ (k:=0) J jE J J) (.tmp J) ?_
     intro w' hs
     obtain ⟨e1,e2⟩ :=jdr hB hall2 (by simp_all)
     exact jds (l:=l) (x:= (rA,rc)) hs (kr:=3) (kp:=4) rfl rfl Dc e1 e2 hln hrs hs.fin
theorem jah (A:Option Addr) (n c:Nat) (pen:List Pn) (B:Option Addr) (m d:Nat) (path:List Pn) (cl:Bool) (w:World) (h:Pts w A n pen) (h2:Pts w B m path) (hn: (n:Int)≤1048576) (hm: (m:Int)≤1048576) :
  Calls Tryz.prog 140 #[.slice A n c, .slice B m d, .bool cl] w fun e w'=>RwP pen path cl e w w':=by
 have hl:=h.1
 have hl2:=h2.1
 refine jK (m:=61) (Tryz.func140) J J (lb J) ?_;refine S3 ?_;refine aL (fun b1=> ?_);refine N6 ?_;refine a9 (jG zK J J (fun w1 hs=>M6 A n c pen w1 (h.over hs.fin) hn)) ?_;refine S2 ?_;refine cV 16 (fun g1=> ?_) (fun g1=> ?_)
 ·refine S8 ?_;refine a9 (JF J J (JJ)) ?_;refine S6 ?_;refine JX J (JZ (k:=0) J jE J J) (.tmp J) ?_
  intro w' hs
  obtain ⟨e1,e2⟩ :=C6 (pen:=pen) (path:=path) (cl:=cl) (by simp_all [Pt])
  exact UN e1 e2 hs.fin
 ·refine S3 ?_;refine o9 (jG LJ J J (fun w1 hs=>SR B m d path w1 (h2.over hs.fin) Om)) ?_;refine S4 ?_;refine cZ (fun c1=> ?_) (fun c1=> ?_)
  ·refine S2 ?_;refine a9 (JF J J (JJ)) ?_;refine S6 ?_;refine JX J (JZ (k:=0) J jE J J) (.tmp J) ?_
   intro w' hs
   obtain ⟨e1,e2⟩ :=C6 (pen:=pen) (path:=path) (cl:=cl) (by simp_all [Pt])
   exact UN e1 e2 hs.fin
  ·have hpen:Us pen=true:=by simp_all
   have hpath:q6 path=true:=by simp_all
   have hB:Pt pen path=true:=by rw [Pt,hpen,hpath];rfl
   obtain ⟨kb,kb2⟩ :=I1 hpath
   have hlo:=jfR (cl:=cl) kb2 Om
   have hll:=Po path cl
   obtain ⟨ka,ka2,_⟩ :=OP hpen
   refine S4 ?_;refine a9 (JF J J (JJ)) ?_;refine S1 ?_;refine aL (fun b2=> ?_);refine N8 ?_;refine JQ LI (v:=fun x=> .slice x.1 _ x.2) (r:=fun x=>JS 0 147 4 _ _ x) (H:=fun _=>True) J J J (lb J) (fun w1 hs=>qI (SQ B m d path cl w1 (h2.over hs.fin) Om Om)) ?_
   rintro⟨lA_,lc⟩ -
   refine N2 ?_;refine Q7 (T:=74) (s:=1) ?_;refine t9 ?_;refine Vl ?_;refine t9 ?_;refine S6 ?_;refine JE (X:=Nat×(Option Addr×Nat)×List Pc) (fun x=>x.1≤(Qf path cl).length∧x.2.2.map (·.xs) = ((Qf path cl).take x.1).map (wG pen)∧∀j,j<x.1→QJ (wG pen (lg (Qf path cl) j)) =true) (fun x=> (Qf path cl).length- x.1) (fun x=> [(10, .int .i64 (x.1:Int))]) (kK [0,6,7,8,9]) (fun x=> [.cel b1 26 [.slice none 0 0], .cel b2 26 [.slice x.2.1.1 x.1 x.2.1.2],JS 0 147 4 (Qf path cl).length ((Qf path cl).flatMap Je) (lA_,lc),JS (Bs.N ⟨w,[]⟩) 74 1 x.1 (x.2.2.map Pc.val) x.2.1,vu x.2.2]) (0,(none,0),[]) (⟨jie _,J,fun j hj=>absurd hj (jjP j)⟩) ⟨J,sz⟩ (fun _ h=>h) ?_
   intro⟨k,⟨rA,rc⟩,l⟩ hx L hL1
   refine v9 ?_;refine r9 ?_
   obtain ⟨hk,hmp,hall⟩ :k≤(Qf path cl).length∧l.map (·.xs) = ((Qf path cl).take k).map (wG pen)∧∀j,j<k→QJ (wG pen (lg (Qf path cl) j)) =true:=hx
   have hlk:l.length=k:=by have:=congrArg List.length hmp;rw [jip,jip,jim] at this;omega
   refine S8 ?_;refine cZ (fun c2=> ?_) (fun c2=> ?_)
   ·have hlt:k< (Qf path cl).length:=Om
    have hlg:=kk hlo hlt
    have hsl:=Bq hpen (lg (Qf path cl) k)
    refine qR (fun w hs=>kI (k:=2) J hs Om) ?_
    rintro⟨eg,rfl⟩
    refine S6 ?_;refine JH 17 ?_;refine dK 0 ?_;refine dK 1 ?_;refine dK 2 ?_;refine dK 3 ?_;refine dK 4 ?_;refine dZ 5 J (jk J J jj J (Qq (b:=eg) (o:=0) (fun w1 hs=>vJ (k:=2) (x:= (some ⟨eg,0,none⟩,lc)) J J w1 hs) hlt)) ?_;refine dK 6 ?_;refine dK 7 ?_;refine dK 8 ?_;refine dK 9 ?_;refine dZ 10 J (jk J J jj J (Qa (b:=eg) (o:=0) (fun w1 hs=>vJ (k:=2) (x:= (some ⟨eg,0,none⟩,lc)) J J w1 hs) hlt)) ?_;refine qd (i:=11) J Dc Kr J ?_;refine JQ GR (v:=fun x=> .tuple #[.slice x.1 _ x.2, .bool _]) (r:=fun x=>JS 0 28 2 _ _ x) (H:=fun _=>True) J J J (lb J) (fun w1 hs=>IJ (Im A n c pen (lg (Qf path cl) k) w1 (h.over hs.fin) hpen hlg)) ?_
    rintro⟨pA,pc⟩ -
    refine n9 ?_;refine UB (u9 J) ?_;refine dK 12 ?_;refine dK 13 ?_;refine dK 14 ?_;refine dK 15 ?_;refine dK 16 ?_;refine JB Kr ?_;refine S7 ?_;refine cZ (fun c3=> ?_) (fun c3=> ?_)
    ·refine S2 ?_;refine a9 (JF J J (JJ)) ?_;refine S11 ?_;refine JX J (JZ (k:=0) J jE J J) (.tmp J) ?_
     intro w' hs
     obtain ⟨e1,e2⟩ :=jdp hB (jcn hlt) (by simp_all)
     exact UN e1 e2 hs.fin
    ·have hok:QJ (wG pen (lg (Qf path cl) k)) =true:=by simp_all
     refine S6 ?_;refine a9 (JF J J (KW J)) ?_;refine S1 ?_;refine jX J J (qN J) J (lb J) (fun b3=> ?_);refine N1 ?_;refine JK (k:=3) J jS JA Dc J Dc J J J (fun w' hs=>qD hs (k:=6) J J) (by simp [Value.oneCell']) (by unfold maxLen;omega) Om (jif _) (fun r1=> ?_);refine N4 ?_;refine ZM 5 J J (fun clo chi=> ?_);refine t9 ?_;refine Wb 4 5 J J Dc J ?_;refine t9 ?_;refine S7 ?_
     exact Jd hL1 ((k+1,r1,l++ [⟨wG pen (lg (Qf path cl) k),pA,pc,clo,chi⟩])) (⟨show k+1≤(Qf path cl).length by omega,by rw [jiG,hmp,Of hlt];rfl,fun j hj=> (ji9 j k).elim (hall j) (fun h3=> (show k=j by omega)▸hok)⟩) (by simp only;omega) ⟨vi Om,sz⟩ (fun _ h=>h.upto ⟨J,J,J,by rw [jiG];rfl,(vZ _ _).symm,trivial⟩)
   ·have hkn:k= (Qf path cl).length:=Om
    have hrs:l.map (·.xs) =Ry pen path cl:=by rw [hmp,jiu Om];rfl
    have hsm:=xE hpen (ls:=Qf path cl) Om
    have hln: (Ry pen path cl).length=k:=by rw [←hrs,jip];exact hlk
    have hall2:=jbl (P:=fun l=>QJ (wG pen l) =true) (fun j hj=>hall j Om)
    refine S8 ?_;refine a9 (jG zL J J (fun w1 hs=>NV _ _ _ (Ry pen path cl) w1 (XM hs (kr:=3) (kp:=4) J J Dc J hlk hrs (fun i hi=>by have:=hsm.2 i hi;exact jiY this Dc)).rings (jjs hsm.total Dc))) ?_;refine S7 ?_;refine JX J (JZ (k:=0) J jE J J) (.tmp J) ?_
    intro w' hs
    by_cases hr:J0 (Ry pen path cl) =true
    ·obtain ⟨e1,e2⟩ :=jdr hB hall2 hr;rw [if_pos hr,if_pos hr,if_pos hr,show yf (Ry pen path cl) =0 from if_pos hr];exact jds (l:=l) (x:= (rA,rc)) hs (kr:=3) (kp:=4) rfl rfl Dc e1 e2 hln hrs hs.fin
    ·obtain ⟨e1,e2⟩ :=C5 hB hall2 (by simpa using hr);rw [if_neg hr,if_neg hr,if_neg hr,show yf (Ry pen path cl) =5 from if_neg hr];exact UN e1 e2 hs.fin
theorem BN (A:Option Addr) (n c:Nat) (pen:List Pn) (B:Option Addr) (m d:Nat) (path:List Pn) (cl:Bool) (w:World) (h:Pts w A n pen) (h2:Pts w B m path) (hn: (n:Int)≤1048576) (hm: (m:Int)≤1048576) :
  Calls Tryz.prog 146 #[.slice A n c, .slice B m d, .bool cl] w fun e w'=>∃A' c',e= .returned (.tuple #[qG A' (uy pen path cl).length c', .int .i64 (G9 pen path cl)])∧OwnG w.heap.size w'.heap.size w' A' (uy pen path cl).length (uy pen path cl)∧Over w w':= (FQ A n c pen B m d path cl w h h2 hn hm).mono fun _ _=>C7
theorem NU (A:Option Addr) (n c:Nat) (pen:List Pn) (B:Option Addr) (m d:Nat) (path:List Pn) (cl:Bool) (w:World) (h:Pts w A n pen) (h2:Pts w B m path) (hn: (n:Int)≤1048576) (hm: (m:Int)≤1048576) :
  Calls Tryz.prog 140 #[.slice A n c, .slice B m d, .bool cl] w fun e w'=>∃A' c',e= .returned (.tuple #[qG A' (uy pen path cl).length c', .int .i64 (G9 pen path cl)])∧OwnG w.heap.size w'.heap.size w' A' (uy pen path cl).length (uy pen path cl)∧Over w w':= (jah A n c pen B m d path cl w h h2 hn hm).mono fun _ _=>C7
end Go.Proofs.YtbahojdbmmjkcaaGreat
