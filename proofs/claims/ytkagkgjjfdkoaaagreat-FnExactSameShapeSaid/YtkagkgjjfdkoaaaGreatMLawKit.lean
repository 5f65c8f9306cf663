import Derived.Test.YtkagkgjjfdkoaaaGreatMRegBounds
import Derived.Test.YtkagkgjjfdkoaaaGreatMOn
set_option linter.unusedVariables false
set_option linter.unusedSimpArgs false
namespace Go.Proofs.YtkagkgjjfdkoaaaGreat
open Go Go.RowKit
theorem kD (a:Int) : (!(a==a)) =false:=by simp
theorem TQ (a:Bool) : (!(a==a)) =false:=by simp
theorem vv: (!true) =false:=rfl
def smallR (rs:List jS) :Prop:=rs.length≤2000∧∀j,j<rs.length→(rg rs j).length≤500
theorem ZP {rs:List jS} (h:smallR rs) :∀k,k≤rs.length→qF rs k≤500*k
 | 0,_=>by simp [qF]
 | k+1,hk=>by
  have:=ZP h k (by omega)
  have:=h.2 k (by omega)
  simp only [qF]
  omega
theorem smallR.total {rs:List jS} (h:smallR rs) : (Go.Proofs.YtkagkgjjfdkoaaaGreat.total rs:Int)≤1048576:=by
 have:=ZP h rs.length (jeD _)
 have:=h.1
 unfold Go.Proofs.YtkagkgjjfdkoaaaGreat.total
 omega
theorem smallR.sum {rs:List jS} (h:smallR rs) {n:Nat} (hn:rs.length=n) :1+2* (qF rs n:Nat)≤(4611686018427387904:Int)∧n≤4611686018427387904:=by
 have:=ZP h n (by omega)
 have:=h.1
 omega
theorem smallR.nil:smallR [] :=⟨by simp,fun j hj=>absurd hj (by simp)⟩
theorem smallR.of {rs:List jS} (h:JO rs=true) :smallR rs:=⟨by have:=wb h;omega,fun j hj=>by have:=Qa (kU h hj);omega⟩
theorem Ca {rs:List jS} (ht: (total rs:Int)≤1048576) {n:Nat} (hn:rs.length=n) :1+2* (qF rs n:Nat)≤(4611686018427387904:Int)∧n≤4611686018427387904:=by
 unfold total at ht
 rw [hn] at ht
 omega
section
variable {w0:Bs} {Rs:List Res}
theorem Zp {k n lo hi:Nat} {A:Option Addr} {rs:List jS} (hk:Rs[k]? =some (JD n rs lo hi A)) (w:World) (hs:St w0 Rs w) :OwnG lo hi w A n rs:=Vy (hs.all k _ hk).1
theorem xi {k n lo hi:Nat} {A:Option Addr} {rs:List jS} (hk:Rs[k]? =some (JD n rs lo hi A)) (w:World) (hs:St w0 Rs w) :hi≤w.heap.size:= (hs.all k _ hk).1.1
theorem jV {k n lo hi:Nat} {A:Option Addr} {rs:List jS} (hk:Rs[k]? =some (JD n rs lo hi A)) (w:World) (hs:St w0 Rs w) :Rings w A n rs:= (Zp hk w hs).rings
end
theorem zw {lo hi n c:Nat} {A:Option Addr} {rs:List jS} {w:World} (h:OwnG lo hi w A n rs) (hz:hi≤w.heap.size) (hb:1+2* (qF rs n:Nat)≤(4611686018427387904:Int)∧n≤4611686018427387904) :
  Calls Tryz.prog 17 #[Ju A n c, .int .i64 1] w fun e w'=>e= .returned (.int .i64 (1+2* (qF rs n:Nat)))∧Wrs (JD n rs lo hi A).F w w'∧(JD n (Qh 1 rs) lo hi A).P w':=
 (YI lo hi A n c rs 1 w h hz (by omega) hb.1 hb.2).mono (by rintro e w' ⟨he,hw,hg⟩;exact⟨he,hw,Ii hg (jft hz hw.size)⟩)
theorem WP {n c:Nat} {A:Option Addr} {rs:List jS} {w:World} (h:Rings w A n (Qh 1 rs)) (hb:1+2* (qF rs n:Nat)≤(4611686018427387904:Int)∧n≤4611686018427387904) :
  Calls Tryz.prog 18 #[Ju A n c, .int .i64 1] w fun e w'=>e= .returned (.int .i64 (1+2* (qF rs n:Nat)))∧Over w w':=LF A n c rs 1 w h (by omega) hb.1 hb.2
theorem ZH (k:Nat) :decide ((1:Int) +2* (k:Int) <0) =false:=decide_eq_false (by omega)
theorem qy {P:Program} {f:FuncId} {args:Array Value} {w1:World} {rs:List jS} {code:Int} (h:Calls P f args w1 fun e w'=>∃A' c',e= .returned (.tuple #[Ju A' rs.length c', .int .i64 code])∧OwnG w1.heap.size w'.heap.size w' A' rs.length rs∧Over w1 w') :
  Calls P f args w1 fun e w'=>∃x: (Option Addr×Nat)×Nat×Nat,e= .returned (.tuple #[Ju x.1.1 rs.length x.1.2, .int .i64 code])∧Over w1 w'∧(JD rs.length rs x.2.1 x.2.2 x.1.1).P w'∧(∀b,(JD rs.length rs x.2.1 x.2.2 x.1.1).F b→w1.heap.size≤b)∧(JD rs.length rs x.2.1 x.2.2 x.1.1).B=0∧True:=
 Qm (V:=fun A c=> .tuple #[Ju A rs.length c, .int .i64 code]) h
end Go.Proofs.YtkagkgjjfdkoaaaGreat
namespace Go.Proofs.YtkagkgjjfdkoaaaGreat
open Go Go.RowKit
set_option maxRecDepth 100000
set_option maxHeartbeats 4000000
section
variable {w:World} {w0:Bs} {Rs:List Res}
theorem Legs.form {A:Option Addr} {n:Nat} {ls:List Leg} (h:Legs w A n ls) (hn:0<n) :∃b o,A=some ⟨b,o,none⟩ :=by
 obtain ⟨b,o,rfl,_⟩ :=h.2 hn
 exact⟨b,o,rfl⟩
theorem y6 {b o m j:Nat} {ls:List Leg} (h:∀w,St w0 Rs w→Legs w (some ⟨b,o,none⟩) m ls) (hj:j<m) :∀w',St w0 Rs w'→∀q v,[Value.int .i64 (lg ls j).ax,Value.int .i64 (lg ls j).ay,Value.int .i64 (lg ls j).bx,Value.int .i64 (lg ls j).b_y][q]? =some v→w'.cell? ⟨b,o+j*4+q,none⟩ =some v:=fun w' hs q v hv=>by
 obtain ⟨b',o',e,_,h1,h2,h3,h4⟩ := (h w' hs).at_ hj
 injection e with e
 injection e with e1 e2 _
 subst e1 e2
 match q,hv with
 | 0,hv=>simp at hv;subst hv;exact h1
 | 1,hv=>simp at hv;subst hv;exact h2
 | 2,hv=>simp at hv;subst hv;exact h3
 | 3,hv=>simp at hv;subst hv;exact h4
theorem Qc {b o m j:Nat} {ls:List Leg} (h:∀w,St w0 Rs w→Legs w (some ⟨b,o,none⟩) m ls) (hj:j<m) :∀w',St w0 Rs w'→∀q v,[Value.int .i64 (lg ls j).ax,Value.int .i64 (lg ls j).ay][q]? =some v→w'.cell? ⟨b,o+j*4+0+q,none⟩ =some v:=fun w' hs q v hv=>
 y6 h hj w' hs q v (by match q,hv with | 0,hv=>exact hv | 1,hv=>exact hv)
theorem qR {b o m j:Nat} {ls:List Leg} (h:∀w,St w0 Rs w→Legs w (some ⟨b,o,none⟩) m ls) (hj:j<m) :∀w',St w0 Rs w'→∀q v,[Value.int .i64 (lg ls j).bx,Value.int .i64 (lg ls j).b_y][q]? =some v→w'.cell? ⟨b,o+j*4+2+q,none⟩ =some v:=fun w' hs q v hv=>by
 have:=y6 h hj w' hs (2+q) v (by match q,hv with | 0,hv=>exact hv | 1,hv=>exact hv)
 rwa [←jfN] at this
end
def vt (h:Bool) (l:Leg) :Leg:=if h=true then⟨2*l.ax,2*l.ay,2*l.bx,2*l.b_y⟩ else l
def Cc (l:Leg) (x y:Int) :Bool:=decide (l.ay≤y) &&decide (y<l.b_y) &&decide (0<Kd l.ax l.ay l.bx l.b_y x y)
def y8 (l:Leg) (x y:Int) :Bool:=decide (l.b_y≤y) &&decide (y<l.ay) &&decide (Kd l.ax l.ay l.bx l.b_y x y<0)
def Ko (l:Leg) (x y:Int) :Int:=if Cc l x y=true then 1 else if y8 l x y=true then-1 else 0
def ue (h:Bool) (ls:List Leg) (x y:Int) :Nat→Int
 | 0=>0
 | k+1=>ue h ls x y k+Ko (vt h (lg ls k)) x y
def SR (h:Bool) (ls:List Leg) (x y:Int) :Int:=ue h ls x y ls.length
theorem Gq (h:Bool) (ls:List Leg) (x y:Int) :∀k:Nat,-(k:Int)≤ue h ls x y k∧ue h ls x y k≤k
 | 0=>by simp [ue]
 | k+1=>by
  have:=Gq h ls x y k
  have h2: -1≤Ko (vt h (lg ls k)) x y∧Ko (vt h (lg ls k)) x y≤1:=by unfold Ko;split<;> (try split) <;>omega
  simp only [ue]
  omega
theorem Q6 {ls:List Leg} (h:∀l∈ls,qO l) {k:Nat} (hk:k<ls.length) :qO (lg ls k) :=by
 rw [←yf hk]
 exact h _ (jeW hk)
theorem Tq (h:Bool) {l:Leg} (hl:qO l) :Ym (vt h l).ax∧Ym (vt h l).ay∧Ym (vt h l).bx∧Ym (vt h l).b_y:=by
 obtain ⟨⟨a1,a2⟩,⟨a3,a4⟩,⟨b1,b2⟩,b3,b4⟩ :=hl
 cases h
 ·simp only [vt,Ym,jfC,if_false];omega
 ·simp only [vt,Ym,if_true];omega
theorem Ly (x y:Int) (w:World) (h1:Ym x) (h2:Ym y) :Calls Tryz.prog 167 #[W2 x y] w fun e w'=>e= .returned (W2 (2*x) (2*y))∧Over w w':=by
 refine jU (m:=10) (Tryz.func167) J J (lb J) ?_;refine S3 ?_;refine aX (fun b1=> ?_);refine N1 ?_;refine aL (fun b2=> ?_);refine N9 ?_;refine a9 (JV J J (kX J J)) ?_;refine S4 ?_;refine jL J (J3 (k:=1) J jl J J) ?_
 intro w' hs
 exact⟨rfl,hs.fin⟩
theorem OH (A:Option Addr) (n c:Nat) (ls:List Leg) (x y:Int) (hf:Bool) (w:World) (h:Legs w A n ls) (hn:n≤1048576) (hok:∀l∈ls,qO l) (hx:Ym x) (hy:Ym y) :
  Calls Tryz.prog 131 #[.slice A n c,W2 x y, .bool hf] w fun e w'=>e= .returned (.int .i64 (SR hf ls x y))∧Over w w':=by
 have hl:=h.1
 refine jU (m:=73) (Tryz.func131) J J (lb J) ?_;refine S3 ?_;refine aX (fun b1=> ?_);refine N14 ?_;refine qi (X:=Nat) (fun k=>k≤n) (fun k=>n- k) (fun k=> [(7, .int .i64 (ue hf ls x y k)),(14, .int .i64 (k:Int))]) (kK [2,4,6,12,13]) 0 (jeE _) ⟨J,sz⟩ ?_
 intro k hk L hL1
 refine v9 ?_
 have hwb:=Gq hf ls x y k
 refine S5 ?_;refine cZ (fun c1=> ?_) (fun c1=> ?_)
 ·have hlt:k<n:= (by omega)
  obtain ⟨bb,oo,rfl⟩ :=h.form (by omega)
  have hle:=Q6 hok (show k<ls.length by omega)
  obtain ⟨d1,d2,d3,d4⟩ :=Tq hf hle
  obtain ⟨⟨e1,e2⟩,⟨e3,e4⟩,⟨e5,e6⟩,e7,e8⟩ :=hle
  refine S7 ?_;refine a9 (jj J J qp J (y6 (fun w' hs=>h.over hs.fin) hlt)) ?_;refine S1 ?_;refine aL (fun b2=> ?_);refine N5 ?_;refine Jw 8 ?_;refine dK 0 ?_;refine dK 1 ?_;refine dK 2 ?_;refine dK 3 ?_;refine Dc (i:=4) (j:=5) J J (by decide) (by decide) (by decide) J J J J (by decide) (by decide) (by decide) J J jO jO (by kernel_rfl) (by kernel_rfl) (by kernel_rfl) (u9 J) (fun b3 b4=> ?_);refine n9 ?_;refine Jh (i:=6) J (by decide) (by kernel_rfl) J ?_;refine S1 ?_;refine jJ (u9 J) ?_;refine Jh (i:=7) J (by decide) (by kernel_rfl) J ?_;refine S1 ?_;refine jJ (u9 J) ?_;refine Jj (by kernel_rfl) ?_;refine S1 ?_;refine wW [] ([.cel b1 54 [.int .i64 x, .int .i64 y], .cel b2 56 (jZ (lg ls k)), .cel b3 54 [.int .i64 (vt hf (lg ls k)).ax, .int .i64 (vt hf (lg ls k)).ay], .cel b4 54 [.int .i64 (vt hf (lg ls k)).bx, .int .i64 (vt hf (lg ls k)).b_y]]) (kK [2,4,6,12,13,7,14,15,16,17,9,18,19,20,21,10,11]) (fun L h_t22=> ?_) ?_
  ·refine S4 ?_;refine cZ (fun c2=> ?_) (fun c2=> ?_)
   ·refine S1 ?_;refine Jw 4 ?_;refine dK 0 ?_;refine dZ 1 J (jH YN J J (fun w h=>Ly _ _ w ⟨by omega,by omega⟩ ⟨by omega,by omega⟩)) ?_;refine dV 2 [3] ?_;refine dZ 3 J (jH YN J J (fun w h=>Ly _ _ w ⟨by omega,by omega⟩ ⟨by omega,by omega⟩)) ?_;refine K4 J (by kernel_rfl) J ?_;refine S1 ?_;refine Q8 6 [3] ?_;refine Jh (i:=5) J (by decide) (by kernel_rfl) J ?_;refine S1 ?_;refine jJ (uw [3] J) ?_;refine Jj (by kernel_rfl) ?_;refine S1 ?_
    exact Jb h_t22 ⟨J,sz⟩ (fun _ h=>h.upto ⟨J,J,by rw [vt,if_pos c2],by rw [vt,if_pos c2],trivial⟩)
   ·refine S2 ?_
    exact Jb h_t22 ⟨J,sz⟩ (fun _ h=>h.upto ⟨J,J,by rw [vt,c2];rfl,by rw [vt,c2];rfl,trivial⟩)
  ·refine V1 ?_;refine qd [(27, .bool (Cc (vt hf (lg ls k)) x y))] (kK [2,4,6,12,13,7,14,15,16,17,9,18,19,20,21,10,11]) (fun L h_8=> ?_) ?_
   ·refine S7 ?_;refine cV 33 (fun g1=> ?_) (fun g1=> ?_)
    ·refine S12 ?_;refine cV 40 (fun g2=> ?_) (fun g2=> ?_)
     ·refine S7 ?_;refine o9 (jH kC J J (fun w h=>Xr _ _ _ _ _ _ w d1.1 d1.2 d2.1 d2.2 d3.1 d3.2 d4.1 d4.2 hx.1 hx.2 hy.1 hy.2)) ?_;refine S5 ?_
      exact Jb h_8 ⟨vb (by simp [Cc, *]),sz⟩ (u9 J)
     ·refine S8 ?_
      exact Jb h_8 ⟨vb (by symm;simp [Cc];omega),sz⟩ (u9 J)
    ·refine S15 ?_
     exact Jb h_8 ⟨vb (by symm;simp [Cc];omega),sz⟩ (u9 J)
   ·refine v9 ?_;refine cZ (fun c3=> ?_) (fun c3=> ?_)
    ·refine S12 ?_
     exact J8 hL1 (k+1) (by omega) (by omega) ⟨vi (by rw [ue,Ko,if_pos c3]),vi (by omega),sz⟩ (u9 J)
    ·refine qd [(49, .bool (y8 (vt hf (lg ls k)) x y))] (kK [2,4,6,12,13,7,14,15,16,17,9,18,19,20,21,10,11,27]) (fun L h_10=> ?_) ?_
     ·refine S7 ?_;refine cV 55 (fun g3=> ?_) (fun g3=> ?_)
      ·refine S12 ?_;refine cV 62 (fun g4=> ?_) (fun g4=> ?_)
       ·refine S7 ?_;refine o9 (jH kC J J (fun w h=>Xr _ _ _ _ _ _ w d1.1 d1.2 d2.1 d2.2 d3.1 d3.2 d4.1 d4.2 hx.1 hx.2 hy.1 hy.2)) ?_;refine S5 ?_
        exact Jb h_10 ⟨vb (by simp [y8, *]),sz⟩ (u9 J)
       ·refine S8 ?_
        exact Jb h_10 ⟨vb (by symm;simp [y8];omega),sz⟩ (u9 J)
      ·refine S15 ?_
       exact Jb h_10 ⟨vb (by symm;simp [y8];omega),sz⟩ (u9 J)
     ·refine v9 ?_;refine cZ (fun c4=> ?_) (fun c4=> ?_)
      ·refine S12 ?_
       exact J8 hL1 (k+1) (by omega) (by omega) ⟨vi (by rw [ue,Ko,c3,if_neg (by simp),if_pos c4];rfl),vi (by omega),sz⟩ (u9 J)
      ·refine S8 ?_
       exact J8 hL1 (k+1) (by omega) (by omega) ⟨vi (by rw [ue,Ko,c3,if_neg (by simp),c4,if_neg (by simp)];omega),vi (by omega),sz⟩ (u9 J)
 ·refine S11 ?_;refine jL J (.tmp J) ?_
  intro w' hs
  exact⟨W8 (by rw [SR,hl,show k=n by omega]),hs.fin⟩
end Go.Proofs.YtkagkgjjfdkoaaaGreat
