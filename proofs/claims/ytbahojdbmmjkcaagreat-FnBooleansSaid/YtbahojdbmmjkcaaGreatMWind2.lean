import Derived.Test.YtbahojdbmmjkcaaGreatMOwn
import Derived.Test.YtbahojdbmmjkcaaGreatMValidRegion
set_option linter.unusedVariables false
set_option linter.unusedSimpArgs false
namespace Go.Proofs.YtbahojdbmmjkcaaGreat
open Go Go.RowKit
variable {h:Bool} {k:Nat} {ls:List Leg} {rs:List jO} {x y:Int}
set_option maxRecDepth 100000
set_option maxHeartbeats 4000000
def jir (l:Leg) :Prop:=uW l.ax∧uW l.ay∧uW l.bx∧uW l.b_y
theorem jgF (h:k<ls.length) :lg ls k∈ls:=ye h▸jju h
theorem ID (A:Option Addr) (n c:Nat) (ls:List Leg) (x y:Int) (w:World) (h:Legs w A n ls) (hn:n≤1048576) (hok:∀l∈ls,jir l) (hx:uW x) (hy:uW y) :
  Calls Tryz.prog 67 #[.slice A n c,Uh x y] w fun e w'=>e= .returned (.int .i64 (wind false ls x y))∧Over w w':=by
 have hl:=h.1
 refine j6 (m:=70) (Tryz.func67) J J (lb J) ?_;refine S3 ?_;refine aX (fun b1=> ?_);refine N12 ?_;refine qv (X:=Nat) (fun k=>k≤n) (fun k=>n- k) (fun k=> [(5, .int .i64 (vk false ls x y k)),(6, .int .i64 (k:Int))]) (kK [0,3,4]) 0 (jjo _) ⟨J,sz⟩ ?_
 intro k hk L hL1
 refine v9 ?_
 have hwb:=xd false ls x y k
 refine S8 ?_;refine cZ (fun c1=> ?_) (fun c1=> ?_)
 ·have hlt:k<n:=Om
  obtain ⟨bb,oo,rfl⟩ :=h.form Om
  obtain ⟨d1,d2,d3,d4⟩ :=hok _ (jgF (show k<ls.length by omega))
  refine S10 ?_;refine a9 (jl J J jk J (Qn (b:=bb) (o:=oo) (j:=k) (fun w' hs=>h.over hs.fin) hlt)) ?_;refine S1 ?_;refine aL (fun b2=> ?_);refine N9 ?_;refine a9 (jl J J jk J (q5 (b:=bb) (o:=oo) (j:=k) (fun w' hs=>h.over hs.fin) hlt)) ?_;refine S1 ?_;refine aL (fun b3=> ?_);refine N4 ?_;refine qt [(25, .bool (F2 (lg ls k) x y))] (kK [0,3,4,5,6,9,10,11,12,15,16,17,18,19,7,20,21,22,23,24,8]) (fun L h_7=> ?_) ?_
  ·refine S7 ?_;refine cV 31 (fun g1=> ?_) (fun g1=> ?_)
   ·refine S12 ?_;refine cV 38 (fun g2=> ?_) (fun g2=> ?_)
    ·refine S7 ?_;refine o9 (jM Qa J J (fun w h=>WJ _ _ _ _ _ _ w d1.1 d1.2 d2.1 d2.2 d3.1 d3.2 d4.1 d4.2 hx.1 hx.2 hy.1 hy.2)) ?_;refine S5 ?_
     exact Jo h_7 ⟨vb (by simp [F2, *]),sz⟩ (u9 J)
    ·refine S8 ?_
     exact Jo h_7 ⟨vb (by symm;simp [F2];omega),sz⟩ (u9 J)
   ·refine S15 ?_
    exact Jo h_7 ⟨vb (by symm;simp [F2];omega),sz⟩ (u9 J)
  ·refine v9 ?_;refine cZ (fun c2=> ?_) (fun c2=> ?_)
   ·refine S13 ?_
    exact qf hL1 (k+1) Om Om ⟨vi (jeA c2),vi Om,sz⟩ (u9 J)
   ·refine qt [(47, .bool (uz (lg ls k) x y))] (kK [0,3,4,5,6,9,10,11,12,15,16,17,18,19,7,20,21,22,23,24,8,25]) (fun L h_9=> ?_) ?_
    ·refine S7 ?_;refine cV 53 (fun g3=> ?_) (fun g3=> ?_)
     ·refine S12 ?_;refine cV 60 (fun g4=> ?_) (fun g4=> ?_)
      ·refine S7 ?_;refine o9 (jM Qa J J (fun w h=>WJ _ _ _ _ _ _ w d1.1 d1.2 d2.1 d2.2 d3.1 d3.2 d4.1 d4.2 hx.1 hx.2 hy.1 hy.2)) ?_;refine S5 ?_
       exact Jo h_9 ⟨vb (by simp [uz, *]),sz⟩ (u9 J)
      ·refine S8 ?_
       exact Jo h_9 ⟨vb (by symm;simp [uz];omega),sz⟩ (u9 J)
     ·refine S15 ?_
      exact Jo h_9 ⟨vb (by symm;simp [uz];omega),sz⟩ (u9 J)
    ·refine v9 ?_;refine cZ (fun c3=> ?_) (fun c3=> ?_)
     ·refine S13 ?_
      exact qf hL1 (k+1) Om Om ⟨vi (PU c2 c3),vi Om,sz⟩ (u9 J)
     ·refine S9 ?_
      exact qf hL1 (k+1) Om Om ⟨vi (PV c2 c3),vi Om,sz⟩ (u9 J)
 ·refine S11 ?_;refine jK J (.tmp J) ?_
  intro w' hs
  exact⟨Y0 (by rw [wind,hl,show k=n by omega]),hs.fin⟩
theorem OU (A:Option Addr) (n c:Nat) (ls:List Leg) (x y:Int) (w:World) (h:Legs w A n ls) (hn:n≤1048576) (hok:∀l∈ls,qM l) (hx:uW x) (hy:uW y) :
  Calls Tryz.prog 67 #[.slice A n c,Uh x y] w fun e w'=>e= .returned (.int .i64 (wind false ls x y))∧Over w w':=ID A n c ls x y w h hn (fun l hl=>jcT (hok l hl)) hx hy
def onL (l:Leg) (x y:Int) :Bool:=DC l.ax l.ay l.bx l.b_y x y
def XB (h:Bool) (ls:List Leg) (x y:Int) :Bool:=ls.any fun l=>onL (kg h l) x y
def Hy (h:Bool) (ls:List Leg) (x y:Int) (k:Nat) :Prop:=∀j,j<k→onL (kg h (lg ls j)) x y=false
theorem Tw (hk:Hy h ls x y k) (h1:onL (kg h (lg ls k)) x y=false) :Hy h ls x y (k+1) :=fun j hj=>by
 by_cases e:j=k
 ·exact e▸h1
 ·exact hk j Om
theorem Nr (hk:Hy h ls x y ls.length) :XB h ls x y=false:=by
 unfold XB
 rw [jld]
 intro l hl
 obtain ⟨j,hj,rfl⟩ :=jj0 hl
 rw [ye hj]
 simpa using hk j hj
theorem Ns (hk:k<ls.length) (h1:onL (kg h (lg ls k)) x y=true) :XB h ls x y=true:=by
 unfold XB
 rw [List.any_eq_true]
 exact⟨ls[k],jju hk,by rw [ye hk];exact h1⟩
theorem NH (l:Leg) :kg false l=l:=by simp [kg]
theorem RY (hk:k<ls.length) (h1:DC (lg ls k).ax (lg ls k).ay (lg ls k).bx (lg ls k).b_y x y=true) :XB false ls x y=true:=
 Ns hk (by rw [NH];exact h1)
theorem Pv (hk:Hy false ls x y k) (h1:DC (lg ls k).ax (lg ls k).ay (lg ls k).bx (lg ls k).b_y x y=false) :Hy false ls x y (k+1) :=
 Tw hk (by rw [NH];exact h1)
theorem Ph (A:Option Addr) (n c:Nat) (ls:List Leg) (x y:Int) (w:World) (h:Legs w A n ls) (hn:n≤1048576) (hok:∀l∈ls,jir l) (hx:uW x) (hy:uW y) :
  Calls Tryz.prog 66 #[.slice A n c,Uh x y] w fun e w'=>e= .returned (.bool (XB false ls x y))∧Over w w':=by
 have hl:=h.1
 refine j6 (m:=24) (Tryz.func66) J J (lb J) ?_;refine S3 ?_;refine aX (fun b1=> ?_);refine N8 ?_;refine qv (X:=Nat) (fun k=>k≤n∧Hy false ls x y k) (fun k=>n- k) (fun k=> [(5, .int .i64 (k:Int))]) (kK [0,3,4]) 0 (⟨jjo _,fun j hj=>absurd hj Om⟩) ⟨J,sz⟩ ?_
 intro k hk L hL1
 refine V8 ?_;refine cZ (fun c1=> ?_) (fun c1=> ?_)
 ·have hlt:k<n:=Om
  obtain ⟨bb,oo,rfl⟩ :=h.form Om
  obtain ⟨d1,d2,d3,d4⟩ :=hok _ (jgF (show k<ls.length by omega))
  refine S6 ?_;refine JS 12 ?_;refine dK 0 ?_;refine dK 1 ?_;refine dK 2 ?_;refine dK 3 ?_;refine dZ 4 J (jl J J jk J (Qn (b:=bb) (o:=oo) (j:=k) (fun w' hs=>h.over hs.fin) hlt)) ?_;refine dK 5 ?_;refine dK 6 ?_;refine dK 7 ?_;refine dK 8 ?_;refine dZ 9 J (jl J J jk J (q5 (b:=bb) (o:=oo) (j:=k) (fun w' hs=>h.over hs.fin) hlt)) ?_;refine dK 10 ?_;refine dZ 11 J (jM yJ J J (fun w h=>Fk _ _ _ _ _ _ w d1 d2 d3 d4 hx hy)) ?_;refine JJ Kr ?_;refine S1 ?_;refine cZ (fun c2=> ?_) (fun c2=> ?_)
  ·refine S10 ?_;refine jK J (.tmp J) ?_
   intro w' hs
   exact⟨QF (RY (show k<ls.length by omega) c2).symm,hs.fin⟩
  ·refine S8 ?_
   exact qf hL1 (k+1) (⟨by omega,Pv hk.2 c2⟩) Om ⟨vi Om,sz⟩ (u9 J)
 ·refine S10 ?_;refine jK J (.tmp J) ?_
  intro w' hs
  exact⟨QF (Nr (by rw [hl,show n=k by omega];exact hk.2)).symm,hs.fin⟩
theorem Iy (A:Option Addr) (n c:Nat) (ls:List Leg) (x y:Int) (w:World) (h:Legs w A n ls) (hn:n≤1048576) (hok:∀l∈ls,qM l) (hx:uW x) (hy:uW y) :
  Calls Tryz.prog 66 #[.slice A n c,Uh x y] w fun e w'=>e= .returned (.bool (XB false ls x y))∧Over w w':=Ph A n c ls x y w h hn (fun l hl=>jcT (hok l hl)) hx hy
def HU (rs:List jO) (x y:Int) :Int:=if(Jp rs&&wW x y) =true then(if XB false (jt rs) x y=true then 2 else if wind false (jt rs) x y≠0 then 1 else 0) else 0
def Bq (rs:List jO) (x y:Int) :Int:=if(Jp rs&&wW x y) =true then 0 else 1
def xl (rs:List jO) (x y:Int) :Value:= .tuple #[.int .i64 (HU rs x y), .int .i64 (Bq rs x y)]
theorem VK (A:Option Addr) (n c:Nat) (rs:List jO) (x y:Int) (w:World) (h:Rings w A n rs) (ht: (total rs:Int)≤1048577) :
  Calls Tryz.prog 18 #[qr A n c,Uh x y] w fun e w'=>e= .returned (xl rs x y)∧Over w w':=by
 refine j6 (m:=22) (Tryz.func18) J J (lb J) ?_;refine S3 ?_;refine aX (fun b1=> ?_);refine N1 ?_;refine aX (fun b2=> ?_);refine N6 ?_;refine a9 (jM kw J J (fun w1 hs=>UR _ _ A n c rs w1 (qi (k:=0) J J w1 hs) (JT (hs.cel (k:=0) J)) (h.over hs.fin) ht)) ?_;refine S2 ?_;refine cV 9 (fun g1=> ?_) (fun g1=> ?_)
 ·refine S13 ?_;refine qh J (.tmp J) (.tmp J) ?_
  intro w' hs
  exact⟨by simp [xl,HU,Bq,g1],hs.fin⟩
 ·refine S3 ?_;refine o9 (jM uV J J (fun w1 hs=>UQ x y w1)) ?_;refine S4 ?_;refine cZ (fun c1=> ?_) (fun c1=> ?_)
  ·refine S7 ?_;refine qh J (.tmp J) (.tmp J) ?_
   intro w' hs
   exact⟨by simp [xl,HU,Bq,c1],hs.fin⟩
  ·have hr:=g1
   have hp:=c1
   obtain ⟨hx,hy⟩ :=jhF hp
   refine S5 ?_;refine JU K3 (v:=fun x=> .slice x.1 _ x.2) (r:=fun x=>J3 0 147 4 _ _ x) (H:=fun _=>True) J J J (lb J) (fun w1 hs=>Qf ((U2 _ _ A n c rs w1 (qi (k:=0) J J w1 hs) (JT (hs.cel (k:=0) J)) (h.over hs.fin) ht).mono fun e w' ⟨v,h1,_,h2,h3⟩ =>⟨v,h1,h2,h3⟩)) ?_
   rintro⟨eA,ec⟩ -
   refine N7 ?_;refine a9 (jM HH J J (fun w1 hs=>Iy eA _ ec (jt rs) x y w1 (Vr (k:=2) J J w1 hs) (jbA hr) (GB hr) hx hy)) ?_;refine S1 ?_;refine cZ (fun c2=> ?_) (fun c2=> ?_)
   ·refine S7 ?_;refine qh J (.tmp J) (.tmp J) ?_
    intro w' hs
    exact⟨by simp [xl,HU,Bq,hr,hp,c2],hs.fin⟩
   ·refine S7 ?_;refine a9 (jM Xf J J (fun w1 hs=>OU eA _ ec (jt rs) x y w1 (Vr (k:=2) J J w1 hs) (jbA hr) (GB hr) hx hy)) ?_;refine S2 ?_;refine cZ (fun c3=> ?_) (fun c3=> ?_)
    ·refine S7 ?_;refine qh J (.tmp J) (.tmp J) ?_
     intro w' hs
     exact⟨by simp [xl,HU,Bq,hr,hp,c2,c3],hs.fin⟩
    ·refine S8 ?_;refine qh J (.tmp J) (.tmp J) ?_
     intro w' hs
     exact⟨by simp [xl,HU,Bq,hr,hp,c2,c3],hs.fin⟩
def XD (rs:List jO) :Int:=if Jp rs=true then KZ (jt rs) else 0
def atC (rs:List jO) :Int:=if Jp rs=true then 0 else 1
theorem jia (h:Jp rs=false) :Ending.returned (.tuple #[.int .i64 0, .int .i64 1]) =Ending.returned (.tuple #[.int .i64 (XD rs), .int .i64 (atC rs)]) :=by simp [XD,atC,h]
theorem jgV (h:Jp rs=true) :Ending.returned (.tuple #[.int .i64 (KZ (qE rs rs.length)), .int .i64 0]) =Ending.returned (.tuple #[.int .i64 (XD rs), .int .i64 (atC rs)]) :=by
 have e1:XD rs=KZ (qE rs rs.length) :=if_pos h
 have e2:atC rs=0:=if_pos h
 rw [e1,e2]
theorem Pj (rs:List jO) (k:Nat) :KZ (qE rs k) +Vs (rg rs k) (rg rs k).length=KZ (qE rs (k+1)) :=by
 have e:qE rs (k+1) =qE rs k++JZ (rg rs k) :=rfl
 rw [e,yF,NN]
theorem Cb {rs:List jO} (h:Jp rs=true) :∀k,k≤rs.length→∀l∈qE rs k,qM l
 | 0,_,l,hl=>by simp [qE] at hl
 | k+1,hk,l,hl=>by
  simp only [qE,jjz] at hl
  rcases hl with h1 | h1
  ·exact Cb h k Om l h1
  ·exact YM (WO (kE h (show k<rs.length by omega))).2.2 _ (jjm _) l h1
theorem jeH (h:Jp rs=true) (hk:k<rs.length) : (-2251799813685248≤KZ (qE rs k)∧KZ (qE rs k)≤2251799813685248)∧-54975581388800≤Vs (rg rs k) (rg rs k).length∧Vs (rg rs k) (rg rs k).length≤54975581388800:=by
 obtain ⟨r1,r2,r3⟩ :=WO (kE h hk)
 obtain ⟨t1,t2⟩ :=Xq r3 _ (jjm _)
 obtain ⟨u1,u2⟩ :=Hr (qE rs k) (Cb h k Om)
 have h1:=yT rs k
 have h2:=T8 h k Om
 have h3:=vx h
 exact⟨⟨by omega,by omega⟩,by omega,by omega⟩
theorem vz (A:Option Addr) (n c:Nat) (rs:List jO) (w:World) (h:Rings w A n rs) (ht: (total rs:Int)≤1048577) :
  Calls Tryz.prog 16 #[qr A n c] w fun e w'=>e= .returned (.tuple #[.int .i64 (XD rs), .int .i64 (atC rs)])∧Over w w':=by
 have hl:=h.1
 refine j6 (m:=25) (Tryz.func16) J J (lb J) ?_;refine S3 ?_;refine aX (fun b1=> ?_);refine N6 ?_;refine a9 (jM kw J J (fun w1 hs=>UR _ _ A n c rs w1 (qi (k:=0) J J w1 hs) (JT (hs.cel (k:=0) J)) (h.over hs.fin) ht)) ?_;refine S2 ?_;refine cZ (fun c1=> ?_) (fun c1=> ?_)
 ·refine S7 ?_;refine qh J (.tmp J) (.tmp J) ?_
  intro w' hs
  exact⟨jia c1,hs.fin⟩
 ·have hr:Jp rs=true:=c1
  have hn4:=vx hr
  refine S12 ?_;refine qv (X:=Nat) (fun k=>k≤n) (fun k=>n- k) (fun k=> [(4, .int .i64 (KZ (qE rs k))),(5, .int .i64 (k:Int))]) (kK [1,2,3]) 0 (jjo _) ⟨J,sz⟩ ?_
  intro k hk L hL1
  refine V9 ?_;refine cZ (fun c2=> ?_) (fun c2=> ?_)
  ·have hlt:k<n:=Om
   obtain ⟨eb,eo,Ak,ck,rfl,hbB,hcell,hpts,hmax⟩ :=h.at_ hlt
   obtain ⟨r1,r2,r3⟩ :=WO (kE hr (show k<rs.length by omega))
   obtain ⟨⟨a1,a2⟩,a3,a4⟩ :=jeH hr (show k<rs.length by omega)
   refine S11 ?_;refine a9 (jo J J JH (jdN hcell hbB)) ?_;refine a9 (jM HL J J (fun w1 hs=>IC Ak _ ck (rg rs k) w1 (hpts.over hs.fin) Om r3)) ?_;refine S10 ?_
   exact qf hL1 (k+1) (Om) Om ⟨vi (Pj rs k),vi Om,sz⟩ (u9 J)
  ·have hkn:k=rs.length:=Om
   subst hkn
   refine S12 ?_;refine qh J (.tmp J) (.tmp J) ?_
   intro w' hs
   exact⟨jgV hr,hs.fin⟩
end Go.Proofs.YtbahojdbmmjkcaaGreat
