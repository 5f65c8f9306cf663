import Derived.Test.YtbahojdbmmjkcaaGreatPOn
import Derived.Test.YtbahojdbmmjkcaaGreatPLegs
import Derived.Test.YtbahojdbmmjkcaaGreatPDat
set_option linter.unusedVariables false
set_option linter.unusedSimpArgs false
namespace Go.Proofs.YtbahojdbmmjkcaaGreat
open Go Go.RowKit
variable {A:Option Addr} {h:Bool} {k:Nat} {l:Leg} {ls:List Leg} {x y:Int}
set_option maxRecDepth 100000
set_option maxHeartbeats 4000000
section
variable {w:World} {w0:Bs} {Rs:List Res}
theorem Legs.form {n:Nat} (h:Legs w A n ls) (hn:0<n) :∃b o,A=some ⟨b,o,none⟩ :=by
 obtain ⟨b,o,rfl,_⟩ :=h.2 hn
 exact⟨b,o,rfl⟩
theorem uV {b o m j:Nat} (h:∀w,St w0 Rs w→Legs w (some ⟨b,o,none⟩) m ls) (hj:j<m) :∀w',St w0 Rs w'→∀q v,[Value.int .i64 (lg ls j).ax,Value.int .i64 (lg ls j).ay,Value.int .i64 (lg ls j).bx,Value.int .i64 (lg ls j).b_y][q]? =some v→w'.cell? ⟨b,o+j*4+q,none⟩ =some v:=fun w' hs q v hv=>by
 obtain ⟨b',o',e,_,h1,h2,h3,h4⟩ := (h w' hs).at_ hj
 injection e with e
 injection e with e1 e2 _
 subst e1 e2
 match q,hv with
 | 0,hv=>simp at hv;subst hv;exact h1
 | 1,hv=>simp at hv;subst hv;exact h2
 | 2,hv=>simp at hv;subst hv;exact h3
 | 3,hv=>simp at hv;subst hv;exact h4
theorem qZ {b o m j:Nat} (h:∀w,St w0 Rs w→Legs w (some ⟨b,o,none⟩) m ls) (hj:j<m) :∀w',St w0 Rs w'→∀q v,[Value.int .i64 (lg ls j).ax,Value.int .i64 (lg ls j).ay][q]? =some v→w'.cell? ⟨b,o+j*4+0+q,none⟩ =some v:=fun w' hs q v hv=>
 uV h hj w' hs q v (by match q,hv with | 0,hv=>exact hv | 1,hv=>exact hv)
theorem qO {b o m j:Nat} (h:∀w,St w0 Rs w→Legs w (some ⟨b,o,none⟩) m ls) (hj:j<m) :∀w',St w0 Rs w'→∀q v,[Value.int .i64 (lg ls j).bx,Value.int .i64 (lg ls j).b_y][q]? =some v→w'.cell? ⟨b,o+j*4+2+q,none⟩ =some v:=fun w' hs q v hv=>by
 have:=uV h hj w' hs (2+q) v (by match q,hv with | 0,hv=>exact hv | 1,hv=>exact hv)
 rwa [←jhD] at this
end
def Qe (h:Bool) (l:Leg) :Leg:=if h=true then⟨2*l.ax,2*l.ay,2*l.bx,2*l.b_y⟩ else l
def Dq (l:Leg) (x y:Int) :Bool:=decide (l.ay≤y) &&decide (y<l.b_y) &&decide (0<Kc l.ax l.ay l.bx l.b_y x y)
def Wo (l:Leg) (x y:Int) :Bool:=decide (l.b_y≤y) &&decide (y<l.ay) &&decide (Kc l.ax l.ay l.bx l.b_y x y<0)
def kE (l:Leg) (x y:Int) :Int:=if Dq l x y=true then 1 else if Wo l x y=true then-1 else 0
def kY (h:Bool) (ls:List Leg) (x y:Int) :Nat→Int
 | 0=>0
 | k+1=>kY h ls x y k+kE (Qe h (lg ls k)) x y
def Xy (h:Bool) (ls:List Leg) (x y:Int) :Int:=kY h ls x y ls.length
theorem zO (h:Bool) (ls:List Leg) (x y:Int) :∀k:Nat,-(k:Int)≤kY h ls x y k∧kY h ls x y k≤k
 | 0=>by simp [kY]
 | k+1=>by
  have:=zO h ls x y k
  have h2: -1≤kE (Qe h (lg ls k)) x y∧kE (Qe h (lg ls k)) x y≤1:=by unfold kE;split<;> (try split) <;>omega
  simp only [kY]
  omega
theorem QK (h:∀l∈ls,qr l) (hk:k<ls.length) :qr (lg ls k) :=by
 rw [←VG hk]
 exact h _ (jgH hk)
theorem Nm (h:Bool) (hl:qr l) :wA (Qe h l).ax∧wA (Qe h l).ay∧wA (Qe h l).bx∧wA (Qe h l).b_y:=by
 obtain ⟨⟨a1,a2⟩,⟨a3,a4⟩,⟨b1,b2⟩,b3,b4⟩ :=hl
 cases h
 ·simp only [Qe,wA,jhr,if_false];omega
 ·simp only [Qe,wA,if_true];omega
theorem jeZ (hl:qr l) :wA l.ax∧wA l.ay∧wA l.bx∧wA l.b_y:=by
 obtain ⟨⟨a1,a2⟩,⟨a3,a4⟩,⟨b1,b2⟩,b3,b4⟩ :=hl
 refine⟨⟨?_,?_⟩,⟨?_,?_⟩,⟨?_,?_⟩,?_,?_⟩ <;>omega
theorem jc9 (hl:qr l) :wA (2*l.ax)∧wA (2*l.ay)∧wA (2*l.bx)∧wA (2*l.b_y) :=by
 obtain ⟨⟨a1,a2⟩,⟨a3,a4⟩,⟨b1,b2⟩,b3,b4⟩ :=hl
 refine⟨⟨?_,?_⟩,⟨?_,?_⟩,⟨?_,?_⟩,?_,?_⟩ <;>omega
theorem jcs (h:Dq (lg ls k) x y=true) :kY false ls x y k+1=kY false ls x y (k+1) :=by
 simp [kY,Qe,kE,h]
theorem TN (h:Dq (lg ls k) x y=false) (h2:Wo (lg ls k) x y=true) :kY false ls x y k- 1=kY false ls x y (k+1) :=by
 simp [kY,Qe,kE,h,h2];omega
theorem TO (h:Dq (lg ls k) x y=false) (h2:Wo (lg ls k) x y=false) :kY false ls x y k=kY false ls x y (k+1) :=by
 simp [kY,Qe,kE,h,h2]
theorem yB (x y:Int) (w:World) (h1:wA x) (h2:wA y) :Calls Tryz.prog 234 #[WH x y] w fun e w'=>e= .returned (WH (2*x) (2*y))∧Over w w':=by
 refine jT (m:=10) (Tryz.func234) J J (lb J) ?_;refine S3 ?_;refine aX (fun b1=> ?_);refine N1 ?_;refine aL (fun b2=> ?_);refine N9 ?_;refine a9 (J0 J J (QN J J)) ?_;refine S4 ?_;refine jL J (qh (k:=1) J jj J J) ?_
 intro w' hs
 exact⟨rfl,hs.fin⟩
theorem Zp (A:Option Addr) (n c:Nat) (ls:List Leg) (x y:Int) (hf:Bool) (w:World) (h:Legs w A n ls) (hn:n≤1048576) (hok:∀l∈ls,qr l) (hx:wA x) (hy:wA y) :
  Calls Tryz.prog 185 #[.slice A n c,WH x y, .bool hf] w fun e w'=>e= .returned (.int .i64 (Xy hf ls x y))∧Over w w':=by
 have hl:=h.1
 refine jT (m:=73) (Tryz.func185) J J (lb J) ?_;refine S3 ?_;refine aX (fun b1=> ?_);refine N14 ?_;refine J9 (X:=Nat) (fun k=>k≤n) (fun k=>n- k) (fun k=> [(7, .int .i64 (kY hf ls x y k)),(14, .int .i64 (k:Int))]) (kK [2,4,6,12,13]) 0 (jgw _) ⟨J,sz⟩ ?_
 intro k hk L hL1
 refine v9 ?_
 have hwb:=zO hf ls x y k
 refine S5 ?_;refine cZ (fun c1=> ?_) (fun c1=> ?_)
 ·have hlt:k<n:=Om
  obtain ⟨bb,oo,rfl⟩ :=h.form Om
  have hle:=QK hok (show k<ls.length by omega)
  obtain ⟨d1,d2,d3,d4⟩ :=Nm hf hle
  obtain ⟨⟨e1,e2⟩,⟨e3,e4⟩,⟨e5,e6⟩,e7,e8⟩ :=hle
  refine S7 ?_;refine a9 (jk J J qm J (uV (fun w' hs=>h.over hs.fin) hlt)) ?_;refine S1 ?_;refine aL (fun b2=> ?_);refine N5 ?_;refine JS 8 ?_;refine dK 0 ?_;refine dK 1 ?_;refine dK 2 ?_;refine dK 3 ?_;refine DI (i:=4) (j:=5) J J Dc Dc Dc J J J J Dc Dc Dc J J jH jH Kr Kr Kr (u9 J) (fun b3 b4=> ?_);refine n9 ?_;refine J8 (i:=6) J Dc Kr J ?_;refine S1 ?_;refine JU (u9 J) ?_;refine J8 (i:=7) J Dc Kr J ?_;refine S1 ?_;refine JU (u9 J) ?_;refine JI Kr ?_;refine S1 ?_;refine Wu [] ([.cel b1 28 [.int .i64 x, .int .i64 y], .cel b2 96 (jU (lg ls k)), .cel b3 28 [.int .i64 (Qe hf (lg ls k)).ax, .int .i64 (Qe hf (lg ls k)).ay], .cel b4 28 [.int .i64 (Qe hf (lg ls k)).bx, .int .i64 (Qe hf (lg ls k)).b_y]]) (kK [2,4,6,12,13,7,14,15,16,17,9,18,19,20,21,10,11]) (fun L h_t22=> ?_) ?_
  ·refine S4 ?_;refine cZ (fun c2=> ?_) (fun c2=> ?_)
   ·refine S1 ?_;refine JS 4 ?_;refine dK 0 ?_;refine dZ 1 J (jJ wR J J (fun w h=>yB _ _ w ⟨by omega,by omega⟩ ⟨by omega,by omega⟩)) ?_;refine dV 2 [3] ?_;refine dZ 3 J (jJ wR J J (fun w h=>yB _ _ w ⟨by omega,by omega⟩ ⟨by omega,by omega⟩)) ?_;refine KB J Kr J ?_;refine S1 ?_;refine QH 6 [3] ?_;refine J8 (i:=5) J Dc Kr J ?_;refine S1 ?_;refine JU (uw [3] J) ?_;refine JI Kr ?_;refine S1 ?_
    exact Jr h_t22 ⟨J,sz⟩ (fun _ h=>h.upto ⟨J,J,by rw [Qe,if_pos c2],by rw [Qe,if_pos c2],trivial⟩)
   ·refine S2 ?_
    exact Jr h_t22 ⟨J,sz⟩ (fun _ h=>h.upto ⟨J,J,by rw [Qe,c2];rfl,by rw [Qe,c2];rfl,trivial⟩)
  ·refine V1 ?_;refine qn [(27, .bool (Dq (Qe hf (lg ls k)) x y))] (kK [2,4,6,12,13,7,14,15,16,17,9,18,19,20,21,10,11]) (fun L h_8=> ?_) ?_
   ·refine S7 ?_;refine cV 33 (fun g1=> ?_) (fun g1=> ?_)
    ·refine S12 ?_;refine cV 40 (fun g2=> ?_) (fun g2=> ?_)
     ·refine S7 ?_;refine o9 (jJ Ke J J (fun w h=>Xt _ _ _ _ _ _ w d1.1 d1.2 d2.1 d2.2 d3.1 d3.2 d4.1 d4.2 hx.1 hx.2 hy.1 hy.2)) ?_;refine S5 ?_
      exact Jr h_8 ⟨vb (by simp [Dq, *]),sz⟩ (u9 J)
     ·refine S8 ?_
      exact Jr h_8 ⟨vb (by symm;simp [Dq];omega),sz⟩ (u9 J)
    ·refine S15 ?_
     exact Jr h_8 ⟨vb (by symm;simp [Dq];omega),sz⟩ (u9 J)
   ·refine v9 ?_;refine cZ (fun c3=> ?_) (fun c3=> ?_)
    ·refine S12 ?_
     exact JY hL1 (k+1) Om Om ⟨vi (by rw [kY,kE,if_pos c3]),vi Om,sz⟩ (u9 J)
    ·refine qn [(49, .bool (Wo (Qe hf (lg ls k)) x y))] (kK [2,4,6,12,13,7,14,15,16,17,9,18,19,20,21,10,11,27]) (fun L h_10=> ?_) ?_
     ·refine S7 ?_;refine cV 55 (fun g3=> ?_) (fun g3=> ?_)
      ·refine S12 ?_;refine cV 62 (fun g4=> ?_) (fun g4=> ?_)
       ·refine S7 ?_;refine o9 (jJ Ke J J (fun w h=>Xt _ _ _ _ _ _ w d1.1 d1.2 d2.1 d2.2 d3.1 d3.2 d4.1 d4.2 hx.1 hx.2 hy.1 hy.2)) ?_;refine S5 ?_
        exact Jr h_10 ⟨vb (by simp [Wo, *]),sz⟩ (u9 J)
       ·refine S8 ?_
        exact Jr h_10 ⟨vb (by symm;simp [Wo];omega),sz⟩ (u9 J)
      ·refine S15 ?_
       exact Jr h_10 ⟨vb (by symm;simp [Wo];omega),sz⟩ (u9 J)
     ·refine v9 ?_;refine cZ (fun c4=> ?_) (fun c4=> ?_)
      ·refine S12 ?_
       exact JY hL1 (k+1) Om Om ⟨vi (by rw [kY,kE,c3,if_neg (by simp),if_pos c4];rfl),vi Om,sz⟩ (u9 J)
      ·refine S8 ?_
       exact JY hL1 (k+1) Om Om ⟨vi (by rw [kY,kE,c3,if_neg (by simp),c4,if_neg (by simp)];omega),vi Om,sz⟩ (u9 J)
 ·refine S11 ?_;refine jL J (.tmp J) ?_
  intro w' hs
  exact⟨wm (by rw [Xy,hl,show k=n by omega]),hs.fin⟩
def jeY (l:Leg) :Prop:=wA l.ax∧wA l.ay∧wA l.bx∧wA l.b_y
theorem jaK (h:k<ls.length) :lg ls k∈ls:=VG h▸jgH h
theorem D4 (A:Option Addr) (n c:Nat) (ls:List Leg) (x y:Int) (w:World) (h:Legs w A n ls) (hn:n≤1048576) (hok:∀l∈ls,jeY l) (hx:wA x) (hy:wA y) :
  Calls Tryz.prog 67 #[.slice A n c,WH x y] w fun e w'=>e= .returned (.int .i64 (Xy false ls x y))∧Over w w':=by
 have hl:=h.1
 refine jT (m:=70) (Tryz.func67) J J (lb J) ?_;refine S3 ?_;refine aX (fun b1=> ?_);refine N12 ?_;refine J9 (X:=Nat) (fun k=>k≤n) (fun k=>n- k) (fun k=> [(5, .int .i64 (kY false ls x y k)),(6, .int .i64 (k:Int))]) (kK [0,3,4]) 0 (jgw _) ⟨J,sz⟩ ?_
 intro k hk L hL1
 refine v9 ?_
 have hwb:=zO false ls x y k
 refine S8 ?_;refine cZ (fun c1=> ?_) (fun c1=> ?_)
 ·have hlt:k<n:=Om
  obtain ⟨bb,oo,rfl⟩ :=h.form Om
  obtain ⟨d1,d2,d3,d4⟩ :=hok _ (jaK (show k<ls.length by omega))
  refine S10 ?_;refine a9 (jk J J jj J (qZ (b:=bb) (o:=oo) (j:=k) (fun w' hs=>h.over hs.fin) hlt)) ?_;refine S1 ?_;refine aL (fun b2=> ?_);refine N9 ?_;refine a9 (jk J J jj J (qO (b:=bb) (o:=oo) (j:=k) (fun w' hs=>h.over hs.fin) hlt)) ?_;refine S1 ?_;refine aL (fun b3=> ?_);refine N4 ?_;refine qn [(25, .bool (Dq (lg ls k) x y))] (kK [0,3,4,5,6,9,10,11,12,15,16,17,18,19,7,20,21,22,23,24,8]) (fun L h_7=> ?_) ?_
  ·refine S7 ?_;refine cV 31 (fun g1=> ?_) (fun g1=> ?_)
   ·refine S12 ?_;refine cV 38 (fun g2=> ?_) (fun g2=> ?_)
    ·refine S7 ?_;refine o9 (jJ q7 J J (fun w h=>wu _ _ _ _ _ _ w d1.1 d1.2 d2.1 d2.2 d3.1 d3.2 d4.1 d4.2 hx.1 hx.2 hy.1 hy.2)) ?_;refine S5 ?_
     exact Jr h_7 ⟨vb (by simp [Dq, *]),sz⟩ (u9 J)
    ·refine S8 ?_
     exact Jr h_7 ⟨vb (by symm;simp [Dq];omega),sz⟩ (u9 J)
   ·refine S15 ?_
    exact Jr h_7 ⟨vb (by symm;simp [Dq];omega),sz⟩ (u9 J)
  ·refine v9 ?_;refine cZ (fun c2=> ?_) (fun c2=> ?_)
   ·refine S13 ?_
    exact JY hL1 (k+1) Om Om ⟨vi (jcs c2),vi Om,sz⟩ (u9 J)
   ·refine qn [(47, .bool (Wo (lg ls k) x y))] (kK [0,3,4,5,6,9,10,11,12,15,16,17,18,19,7,20,21,22,23,24,8,25]) (fun L h_9=> ?_) ?_
    ·refine S7 ?_;refine cV 53 (fun g3=> ?_) (fun g3=> ?_)
     ·refine S12 ?_;refine cV 60 (fun g4=> ?_) (fun g4=> ?_)
      ·refine S7 ?_;refine o9 (jJ q7 J J (fun w h=>wu _ _ _ _ _ _ w d1.1 d1.2 d2.1 d2.2 d3.1 d3.2 d4.1 d4.2 hx.1 hx.2 hy.1 hy.2)) ?_;refine S5 ?_
       exact Jr h_9 ⟨vb (by simp [Wo, *]),sz⟩ (u9 J)
      ·refine S8 ?_
       exact Jr h_9 ⟨vb (by symm;simp [Wo];omega),sz⟩ (u9 J)
     ·refine S15 ?_
      exact Jr h_9 ⟨vb (by symm;simp [Wo];omega),sz⟩ (u9 J)
    ·refine v9 ?_;refine cZ (fun c3=> ?_) (fun c3=> ?_)
     ·refine S13 ?_
      exact JY hL1 (k+1) Om Om ⟨vi (TN c2 c3),vi Om,sz⟩ (u9 J)
     ·refine S9 ?_
      exact JY hL1 (k+1) Om Om ⟨vi (TO c2 c3),vi Om,sz⟩ (u9 J)
 ·refine S11 ?_;refine jL J (.tmp J) ?_
  intro w' hs
  exact⟨wm (by rw [Xy,hl,show k=n by omega]),hs.fin⟩
def onL (l:Leg) (x y:Int) :Bool:=NR l.ax l.ay l.bx l.b_y x y
def uB (h:Bool) (ls:List Leg) (x y:Int) :Bool:=ls.any fun l=>onL (Qe h l) x y
def yL (h:Bool) (ls:List Leg) (x y:Int) (k:Nat) :Prop:=∀j,j<k→onL (Qe h (lg ls j)) x y=false
theorem GY (hk:yL h ls x y k) (h1:onL (Qe h (lg ls k)) x y=false) :yL h ls x y (k+1) :=fun j hj=>by
 by_cases e:j=k
 ·exact e▸h1
 ·exact hk j Om
theorem Ly (hk:yL h ls x y ls.length) :uB h ls x y=false:=by
 unfold uB
 rw [List.any_eq_false]
 intro l hl
 obtain ⟨j,hj,rfl⟩ :=jg1 hl
 rw [VG hj]
 simpa using hk j hj
theorem Lz (hk:k<ls.length) (h1:onL (Qe h (lg ls k)) x y=true) :uB h ls x y=true:=by
 unfold uB
 rw [List.any_eq_true]
 exact⟨ls[k],jgH hk,by rw [VG hk];exact h1⟩
theorem DH (l:Leg) :Qe false l=l:=by simp [Qe]
theorem SG (l:Leg) :Qe true l=⟨2*l.ax,2*l.ay,2*l.bx,2*l.b_y⟩ :=by simp [Qe]
theorem It (hk:k<ls.length) (h1:NR (lg ls k).ax (lg ls k).ay (lg ls k).bx (lg ls k).b_y x y=true) :uB false ls x y=true:=
 Lz hk (by rw [DH];exact h1)
theorem Tl (hk:yL false ls x y k) (h1:NR (lg ls k).ax (lg ls k).ay (lg ls k).bx (lg ls k).b_y x y=false) :yL false ls x y (k+1) :=
 GY hk (by rw [DH];exact h1)
theorem Ta (A:Option Addr) (n c:Nat) (ls:List Leg) (x y:Int) (w:World) (h:Legs w A n ls) (hn:n≤1048576) (hok:∀l∈ls,jeY l) (hx:wA x) (hy:wA y) :
  Calls Tryz.prog 66 #[.slice A n c,WH x y] w fun e w'=>e= .returned (.bool (uB false ls x y))∧Over w w':=by
 have hl:=h.1
 refine jT (m:=24) (Tryz.func66) J J (lb J) ?_;refine S3 ?_;refine aX (fun b1=> ?_);refine N8 ?_;refine J9 (X:=Nat) (fun k=>k≤n∧yL false ls x y k) (fun k=>n- k) (fun k=> [(5, .int .i64 (k:Int))]) (kK [0,3,4]) 0 (⟨jgw _,fun j hj=>absurd hj Om⟩) ⟨J,sz⟩ ?_
 intro k hk L hL1
 refine V8 ?_;refine cZ (fun c1=> ?_) (fun c1=> ?_)
 ·have hlt:k<n:=Om
  obtain ⟨bb,oo,rfl⟩ :=h.form Om
  obtain ⟨d1,d2,d3,d4⟩ :=hok _ (jaK (show k<ls.length by omega))
  refine S6 ?_;refine JS 12 ?_;refine dK 0 ?_;refine dK 1 ?_;refine dK 2 ?_;refine dK 3 ?_;refine dZ 4 J (jk J J jj J (qZ (b:=bb) (o:=oo) (j:=k) (fun w' hs=>h.over hs.fin) hlt)) ?_;refine dK 5 ?_;refine dK 6 ?_;refine dK 7 ?_;refine dK 8 ?_;refine dZ 9 J (jk J J jj J (qO (b:=bb) (o:=oo) (j:=k) (fun w' hs=>h.over hs.fin) hlt)) ?_;refine dK 10 ?_;refine dZ 11 J (jJ UH J J (fun w h=>BA _ _ _ _ _ _ w d1 d2 d3 d4 hx hy)) ?_;refine JI Kr ?_;refine S1 ?_;refine cZ (fun c2=> ?_) (fun c2=> ?_)
  ·refine S10 ?_;refine jL J (.tmp J) ?_
   intro w' hs
   exact⟨Qs (It (show k<ls.length by omega) c2).symm,hs.fin⟩
  ·refine S8 ?_
   exact JY hL1 (k+1) (⟨by omega,Tl hk.2 c2⟩) Om ⟨vi Om,sz⟩ (u9 J)
 ·refine S10 ?_;refine jL J (.tmp J) ?_
  intro w' hs
  exact⟨Qs (Ly (by rw [hl,show n=k by omega];exact hk.2)).symm,hs.fin⟩
theorem Fs (l:Leg) (b1_ b2_:Nat) (x y:Int) (hf:Bool) (w:World) (hl:qr l) (hx:wA x) (hy:wA y) (h1:w.heap[b1_]? =some (.cells [.bool hf].toArray 4 (0,0))) (h2:w.heap[b2_]? =some (.cells [.int .i64 x, .int .i64 y].toArray 28 (0,0))) :
  Calls Tryz.prog 248 #[.agg #[.int .i64 l.ax, .int .i64 l.ay, .int .i64 l.bx, .int .i64 l.b_y], .pointer (some ⟨b1_,0,none⟩), .pointer (some ⟨b2_,0,none⟩)] w fun e w'=>e= .returned (.bool (onL (Qe hf l) x y))∧Over w w':=by
 have m1:∀ {Rs},∀w',St ⟨w,[]⟩ Rs w'→w'.cell? ⟨b1_,0,none⟩ =some (.bool hf) :=fun w' hs=> (cell_of_row w' b1_ 0 _ _ (0,0) ((hs.fin.out.block _ (JZ h1)).trans h1)).trans rfl
 have m2:∀ {Rs},∀w',St ⟨w,[]⟩ Rs w'→∀q v,[Value.int .i64 x,Value.int .i64 y][q]? =some v→w'.cell? ⟨b2_,0+q,none⟩ =some v:=fun w' hs q v hv=>by
  rw [cell_of_row w' b2_ _ _ _ (0,0) ((hs.fin.out.block _ (JZ h2)).trans h2),jgT]
  simpa using hv
 obtain ⟨d1,d2,d3,d4⟩ :=jeZ hl
 obtain ⟨f1,f2,f3,f4⟩ :=jc9 hl
 obtain ⟨⟨e1,e2⟩,⟨e3,e4⟩,⟨e5,e6⟩,e7,e8⟩ :=hl
 refine jT (m:=20) (Tryz.func248) J J (lb J) ?_;refine S3 ?_;refine aX (fun b1=> ?_);refine N5 ?_;refine a9 (jl J J Qv (m1)) ?_;refine S1 ?_;refine cZ (fun c1=> ?_) (fun c1=> ?_)
 ·refine S2 ?_;refine JS 9 ?_;refine dK 0 ?_;refine dK 1 ?_;refine dZ 2 J (jJ wR J J (fun w h=>yB _ _ w ⟨by omega,by omega⟩ ⟨by omega,by omega⟩)) ?_;refine dK 3 ?_;refine dK 4 ?_;refine dZ 5 J (jJ wR J J (fun w h=>yB _ _ w ⟨by omega,by omega⟩ ⟨by omega,by omega⟩)) ?_;refine dZ 6 J (jk J J jj J (m2)) ?_;refine dZ 7 rfl (jJ kJ rfl rfl (fun w h=>UK _ _ _ _ _ _ w (by first | exact d1 | exact f1) (by first | exact d2 | exact f2) (by first | exact d3 | exact f3) (by first | exact d4 | exact f4) hx hy)) ?_;refine dK 8 ?_;refine JI Kr ?_;refine S3 ?_;refine jL J (.tmp J) ?_
  intro w' hs
  exact⟨Qs (by rw [c1,SG];rfl),hs.fin⟩
 ·refine S8 ?_;refine a9 (jk J J jj J (m2)) ?_;refine a9 (jJ kJ rfl rfl (fun w h=>UK _ _ _ _ _ _ w (by first | exact d1 | exact f1) (by first | exact d2 | exact f2) (by first | exact d3 | exact f3) (by first | exact d4 | exact f4) hx hy)) ?_;refine S3 ?_;refine jL J (.tmp J) ?_
  intro w' hs
  exact⟨Qs (by rw [c1,DH];rfl),hs.fin⟩
end Go.Proofs.YtbahojdbmmjkcaaGreat
namespace Go.Proofs.YtbahojdbmmjkcaaGreat
open Go Go.RowKit
variable {A:Option Addr} {rs:List jK} {w w':World} {xs:List (Int×Int)}
set_option maxHeartbeats 400000 in
set_option maxRecDepth 100000 in
theorem DM (A B:Option Addr) (n c d:Nat) (rs:List jK) (w:World) (h:Rings w A n rs) (h':Rings w B n rs) (ht: (total rs:Int)≤1048576) :
  Calls Tryz.prog 76 #[.slice A n c, .slice B n d] w fun e w'=>e= .returned (.bool true)∧Over w w':=by
 have hlen:=Lib.hid h.1
 have hn: (n:Int)≤1048576:=by have:=hlen.out;unfold total at ht;omega
 have hq: ((n:Int) != (n:Int)) =false:=by simp
 have Ht:=Lib.hid ht
 clear ht
 go_enter Tryz.func76,Tryz.ntmps76
 go_wp2
 go_loopw [5] (fun i wr=>∃k:Nat,k≤n∧i= .int .i64 k∧Over w wr) (fun i _=>n- (intOf i).toNat)
 case atStart=>exact⟨0,jgw _,rfl,Over.refl _⟩
 case round=>
  rename_i wr
  obtain ⟨k,hk,rfl,hb⟩ :=hrel
  by_cases hlt:k<n
  ·obtain ⟨b,o,Ak,ck,rfl,hbB,hcell,hpts,hmax⟩ := (h.over hb).at_ hlt
   obtain ⟨b',o',Ak',ck',rfl,hbB',hcell',hpts',_⟩ := (h'.over hb).at_ hlt
   have hr: ((rg rs k).length:Int)≤1048576:=by have:=Ht.out;have:=KL rs (k:=k) (by rw [hlen.out];exact hlt);omega
   have HP:=Lib.hid (And.intro hpts hpts')
   clear h h' hmax hpts hpts'
   go_wp2
   refine Q0 (B:=ob _) (Over.refl _) Kr (by simp only [jhk,jgD,jgY,Nat.reduceAdd];rfl) (fun hBW=> ?_);refine i8 0 ?_;refine i8 1 ?_;refine i8 2 ?_;refine i8 3 ?_;refine i8 4 ?_;refine i8 5 ?_;refine i8 6 ?_;refine i8 7 ?_;refine w9 8 (hy:=fun wx hS=>by(go_simp;refine(IZ _ _ _ _ _ _ _ (HP.out.1.over (by first | exact hS | exact Over.trans hS (Over.refl _))) (HP.out.2.over hS) hr).mono ?_;rintro e w1 ⟨rfl,hb1⟩;exact⟨rfl,hb1⟩)) (h:= ?_)
   simp only [Act.put,qE,jP,jQ]
   refine i8 9 ?_
   refine QZ Kr (fun w2 h2=> ?_) _
   try clear hBW
   go_wp2
   go_roundw
   case rel=>exact⟨k+1,by omega,by go_num,ov9⟩
   case measure=>simp [intOf];omega
  ·clear h h'
   go_wp2
   go_ret
   exact⟨rfl,ov9⟩
set_option maxHeartbeats 400000 in
theorem Zd (A B:Option Addr) (n c d:Nat) (rs:List jK) (w:World) (h:Rings w A n rs) (h':Rings w B n rs) (ht: (total rs:Int)≤1048576) :
  Calls Tryz.prog 24 #[qK A n c,qK B n d] w fun e w'=>e= .returned (.bool true)∧Over w w':=by
 go_enter Tryz.func24,Tryz.ntmps24
 go_wp2_with (go_at_call 76;refine(DM _ _ _ _ _ rs _ (h.over ov9) (h'.over ov9) ht).mono ?_;rintro e w1 ⟨rfl,hb1⟩)
 go_ret
 exact⟨rfl,ov9⟩
theorem jdE {xs ys:jK} (h:xs.length=ys.length) (hp:∀j,j<xs.length→px xs j=px ys j∧py xs j=py ys j) :xs=ys:=by
 refine jhH h fun j h1 h2=> ?_
 rw [yq h1,yq h2,(hp j h1).1,(hp j h1).2]
theorem CS {ss:List jK} (h:rs.length=ss.length) (hp:∀j,j<rs.length→rg rs j=rg ss j) :rs=ss:=by
 refine jhH h fun j h1 h2=> ?_
 rw [Vm h1,Vm h2,hp j h1]
set_option maxHeartbeats 1000000 in
set_option maxRecDepth 100000 in
theorem GP (A B:Option Addr) (n m c d:Nat) (xs ys:jK) (w:World) (h:Pts w A n xs) (h':Pts w B m ys) (hn: (n:Int)≤1048576) (hm: (m:Int)≤1048576) :
  Calls Tryz.prog 136 #[.slice A n c, .slice B m d] w fun e w'=>e= .returned (.bool (decide (xs=ys)))∧Over w w':=by
 have hl:=Lib.hid h.1
 have hl':=Lib.hid h'.1
 by_cases hnm:n=m
 ·subst hnm
  have hq: ((n:Int) != (n:Int)) =false:=by simp
  go_enter Tryz.func136,Tryz.ntmps136
  go_wp2
  go_loopw [5] (fun i wr=>∃k:Nat,k≤n∧i= .int .i64 k∧Over w wr∧Hid (∀j,j<k→px xs j=px ys j∧py xs j=py ys j)) (fun i _=>n- (intOf i).toNat)
  case atStart=>exact⟨0,jgw _,rfl,Over.refl _,fun j hj=>absurd hj Om⟩
  case round=>
   rename_i wr
   obtain ⟨k,hk,rfl,hb,hall⟩ :=hrel
   by_cases hlt:k<n
   ·obtain ⟨b,o,rfl,hbB,hc1,hc2⟩ := (h.over hb).at_ hlt
    obtain ⟨b',o',rfl,hbB',hc1',hc2'⟩ := (h'.over hb).at_ hlt
    have Hb:=Lib.hid hb
    have hs:Hid (px xs k=px ys k∧py xs k=py ys k→∀j,j<k+1→px xs j=px ys j∧py xs j=py ys j) :=by
     intro h j hj
     by_cases hjk:j=k
     ·subst hjk;exact h
     ·exact hall.out j Om
    have hd:Hid (¬(px xs k=px ys k∧py xs k=py ys k)→decide (xs=ys) =false) :=fun h=>decide_eq_false (fun e=>h (by rw [e];exact⟨rfl,rfl⟩))
    clear h h' hb hall
    generalize px xs k=x at hc1 hs hd
    generalize py xs k=y at hc2 hs hd
    generalize px ys k=x' at hc1' hs hd
    generalize py ys k=y' at hc2' hs hd
    have key: (x=x'∧y=y')∨(¬x=x')∨(x=x'∧¬y=y') :=by omega
    rcases key with⟨rfl,rfl⟩ | hne |⟨rfl,hne⟩
    ·have hq2: (x==x) =true:=by simp
     have hq3: (y==y) =true:=by simp
     have hs2:=Lib.hid (hs.out ⟨rfl,rfl⟩)
     clear hs
     go_wp2
     refine Q0 (B:=ob _) (Over.refl _) Kr (by simp only [jhk,jgD,jgY,Nat.reduceAdd];rfl) (fun hBW=> ?_);refine i8 0 ?_;refine i8 1 ?_;refine i8 2 ?_;refine i8 3 ?_;refine i8 4 ?_;refine i8 5 ?_;refine i8 6 ?_;refine i8 7 ?_;refine i8 8 ?_
     refine QZ Kr (fun w2 h2=> ?_) _
     try clear hBW
     go_wp2
     go_roundw
     case rel=>exact⟨k+1,by omega,by go_num,Hb.out.trans h2,hs2.out⟩
     case measure=>simp [intOf];omega
    all_goals
     have hq:=Lib.hid (hd.out Om)
     go_wp2
     refine Q0 (B:=ob _) (Over.refl _) Kr (by simp only [jhk,jgD,jgY,Nat.reduceAdd];rfl) (fun hBW=> ?_);refine i8 0 ?_;refine i8 1 ?_;refine i8 2 ?_;refine i8 3 ?_;refine i8 4 ?_;refine i8 5 ?_;refine i8 6 ?_;refine i8 7 ?_;refine i8 8 ?_
     refine QZ Kr (fun w2 h2=> ?_) _
     try clear hBW
     go_wp2
     go_ret
     exact⟨by rw [hq.out];rfl,Hb.out.trans h2⟩
   ·have hkn:k=n:=by omega
    have hq:Hid (decide (xs=ys) =true) :=decide_eq_true (jdE (by rw [hl.out,hl'.out]) (fun j hj=>hall.out j (by rw [hl.out] at hj;omega)))
    clear h h' hall hl hl'
    go_wp2
    go_ret
    exact⟨by rw [hq.out];rfl,hb⟩
 ·have hq: ((n:Int) != (m:Int)) =true:=by simp;omega
  have hv:Hid (decide (xs=ys) =false) :=decide_eq_false (fun e=>hnm (by rw [←hl.out,←hl'.out,e]))
  clear h h' hl hl'
  go_enter Tryz.func136,Tryz.ntmps136
  go_wp2
  go_ret
  exact⟨by rw [hv.out];rfl,ov9⟩
theorem Zv {b o:Nat} (h:w'.heap[b]? =w.heap[b]?) :w'.cell? ⟨b,o,none⟩ =w.cell? ⟨b,o,none⟩ :=by
 simp only [World.cell?,h]
theorem Pts.agree {n:Nat} (h:Pts w A n xs) (hz:w.heap.size≤w'.heap.size) (ha:∀p,A=some p→w'.heap[p.block]? =w.heap[p.block]?) :Pts w' A n xs:=by
 refine⟨h.1,fun hn=> ?_⟩
 obtain ⟨b,o,rfl,hlt,hc⟩ :=h.2 hn
 have hb:=ha _ rfl
 refine⟨b,o,J,by omega,fun k hk=> ?_⟩
 rw [Zv hb,Zv hb]
 exact hc k hk
theorem OwnR.agree {B:Nat} {g n:Nat} (h:OwnR B w g n rs) (hz:w.heap.size≤w'.heap.size) (ha:∀b,B≤b→b<w.heap.size→w'.heap[b]? =w.heap[b]?) :OwnR B w' g n rs:=by
 have hB:=h.1
 have hg:=ha g h.1 h.2.2.1.lt
 refine⟨h.1,h.2.1,?_,fun k hk=> ?_⟩
 ·obtain ⟨cs,hs,hh⟩ :=h.2.2.1
  exact⟨cs,hs,hg.trans hh⟩
 ·obtain ⟨gk,h1,h2,h3,h4⟩ :=h.2.2.2 k hk
  have hgk:=ha gk h1 h4.1.lt
  refine⟨gk,h1,h2,(Zv hg).trans h3,?_,h4.2.agree hz fun p hp=> ?_⟩
  ·obtain ⟨cs,hs,hh⟩ :=h4.1
   exact⟨cs,hs,hgk.trans hh⟩
  ·injection hp with hp
   subst hp
   exact hgk
def Res.clo (lo hi:Nat) (P0:World→Prop) :Res where
 F b:=lo≤b∧b<hi
 P w:=hi≤w.heap.size∧∀w',hi≤w'.heap.size→(∀b,lo≤b→b<hi→w'.heap[b]? =w.heap[b]?)→P0 w'
 low w h b hb:=jgA hb.2 h.1
 B:=0
 dep w w' h hz hb:=⟨jhi h.1 hz,fun w'' h2 h3=>h.2 w'' h2 fun b h4 h5=> (h3 b h4 h5).trans (hb b (jgA h5 h.1) (.inr ⟨h4,h5⟩))⟩
section
variable {w:World} {w0:Bs} {Rs:List Res}
end
end Go.Proofs.YtbahojdbmmjkcaaGreat
