import Derived.Test.YtpncbbcmoiiipaaGreatKTo
import Derived.Test.YtpncbbcmoiiipaaGreatKOn
import Derived.Test.YtpncbbcmoiiipaaGreatKValidRegion
set_option linter.unusedVariables false
set_option linter.unusedSimpArgs false
namespace Go.Proofs.YtpncbbcmoiiipaaGreat
open Go Go.RowKit
theorem F2 (a:Int) : (!(a==a)) =false:=by simp
theorem jkn: (!true) =false:=rfl
def smallR (rs:List jV) :Prop:=rs.length≤2000∧∀j,j<rs.length→(rg rs j).length≤500
theorem xN {rs:List jV} (h:smallR rs) :∀k,k≤rs.length→Wz rs k≤500*k
 | 0,_=>by simp [Wz]
 | k+1,hk=>by
  have:=xN h k Om
  have:=h.2 k Om
  simp only [Wz]
  omega
theorem smallR.total {rs:List jV} (h:smallR rs) : (Go.Proofs.YtpncbbcmoiiipaaGreat.total rs:Int)≤1048576:=by
 have:=xN h rs.length (jih _)
 have:=h.1
 unfold Go.Proofs.YtpncbbcmoiiipaaGreat.total
 omega
theorem smallR.sum {rs:List jV} (h:smallR rs) {n:Nat} (hn:rs.length=n) :1+2* (Wz rs n:Nat)≤(4611686018427387904:Int)∧n≤4611686018427387904:=by
 have:=xN h n Om
 have:=h.1
 omega
theorem smallR.nil:smallR [] :=⟨by simp,fun j hj=>absurd hj (by simp)⟩
theorem smallR.of {rs:List jV} (h:JE rs=true) :smallR rs:=⟨by have:=WR h;omega,fun j hj=>by have:=Qf (Km h hj);omega⟩
theorem jmh {rs:List jV} (ht: (total rs:Int)≤1048576) {n:Nat} (hn:rs.length=n) :1+2* (Wz rs n:Nat)≤(4611686018427387904:Int)∧n≤4611686018427387904:=by
 unfold total at ht
 rw [hn] at ht
 omega
section
variable {w0:Bs} {Rs:List Res}
theorem jhZ {k n lo hi:Nat} {A:Option Addr} {rs:List jV} (hk:Rs[k]? =some (Ky n rs lo hi A)) (w:World) (hs:St w0 Rs w) :OwnG lo hi w A n rs:=UD (hs.all k _ hk).1
theorem joE {k n lo hi:Nat} {A:Option Addr} {rs:List jV} (hk:Rs[k]? =some (Ky n rs lo hi A)) (w:World) (hs:St w0 Rs w) :hi≤w.heap.size:= (hs.all k _ hk).1.1
theorem vM {k n lo hi:Nat} {A:Option Addr} {rs:List jV} (hk:Rs[k]? =some (Ky n rs lo hi A)) (w:World) (hs:St w0 Rs w) :Rings w A n rs:= (jhZ hk w hs).rings
theorem jpg {k n lo hi:Nat} {A:Option Addr} {xs:List (Int×Int)} (hk:Rs[k]? =some (jgY n xs lo hi A)) (w:World) (hs:St w0 Rs w) :OwnP lo hi w A n xs:=jcU (hs.all k _ hk).1
theorem jpx {k n lo hi:Nat} {A:Option Addr} {xs:List (Int×Int)} (hk:Rs[k]? =some (jgY n xs lo hi A)) (w:World) (hs:St w0 Rs w) :hi≤w.heap.size:= (hs.all k _ hk).1.1
theorem Rv {k n lo hi:Nat} {A:Option Addr} {xs:List (Int×Int)} (hk:Rs[k]? =some (jgY n xs lo hi A)) (w:World) (hs:St w0 Rs w) :Pts w A n xs:= (jpg hk w hs).pts
end
theorem jlo {lo hi n c:Nat} {A:Option Addr} {rs:List jV} {w:World} (h:OwnG lo hi w A n rs) (hz:hi≤w.heap.size) (hb:1+2* (Wz rs n:Nat)≤(4611686018427387904:Int)∧n≤4611686018427387904) :
  Calls Tryz.prog 19 #[qT A n c, .int .i64 1] w fun e w'=>e= .returned (.int .i64 (1+2* (Wz rs n:Nat)))∧Wrs (Ky n rs lo hi A).F w w'∧(Ky n (F1 1 rs) lo hi A).P w':=
 (jmT lo hi A n c rs 1 w h hz Om hb.1 hb.2).mono (by rintro e w' ⟨he,hw,hg⟩;exact⟨he,hw,jev hg (jjb hz hw.size)⟩)
theorem jln {n c:Nat} {A:Option Addr} {rs:List jV} {w:World} (h:Rings w A n (F1 1 rs)) (hb:1+2* (Wz rs n:Nat)≤(4611686018427387904:Int)∧n≤4611686018427387904) :
  Calls Tryz.prog 20 #[qT A n c, .int .i64 1] w fun e w'=>e= .returned (.int .i64 (1+2* (Wz rs n:Nat)))∧Over w w':=jmK A n c rs 1 w h Om hb.1 hb.2
theorem joi (k:Nat) :decide ((1:Int) +2* (k:Int) <0) =false:=decide_eq_false Om
theorem jku {P:Program} {f:FuncId} {args:Array Value} {w1:World} {rs:List jV} {code:Int} (h:Calls P f args w1 fun e w'=>∃A' c',e= .returned (.tuple #[qT A' rs.length c', .int .i64 code])∧OwnG w1.heap.size w'.heap.size w' A' rs.length rs∧Over w1 w') :
  Calls P f args w1 fun e w'=>∃x: (Option Addr×Nat)×Nat×Nat,e= .returned (.tuple #[qT x.1.1 rs.length x.1.2, .int .i64 code])∧Over w1 w'∧(Ky rs.length rs x.2.1 x.2.2 x.1.1).P w'∧(∀b,(Ky rs.length rs x.2.1 x.2.2 x.1.1).F b→w1.heap.size≤b)∧(Ky rs.length rs x.2.1 x.2.2 x.1.1).B=0∧True:=
 KB (V:=fun A c=> .tuple #[qT A rs.length c, .int .i64 code]) h
end Go.Proofs.YtpncbbcmoiiipaaGreat
namespace Go.Proofs.YtpncbbcmoiiipaaGreat
open Go Go.RowKit
set_option maxRecDepth 100000
set_option maxHeartbeats 4000000
section
variable {w:World} {w0:Bs} {Rs:List Res}
theorem Legs.form {A:Option Addr} {n:Nat} {ls:List Leg} (h:Legs w A n ls) (hn:0<n) :∃b o,A=some ⟨b,o,none⟩ :=by
 obtain ⟨b,o,rfl,_⟩ :=h.2 hn
 exact⟨b,o,rfl⟩
theorem ya {b o m j:Nat} {ls:List Leg} (h:∀w,St w0 Rs w→Legs w (some ⟨b,o,none⟩) m ls) (hj:j<m) :∀w',St w0 Rs w'→∀q v,[Value.int .i64 (lg ls j).ax,Value.int .i64 (lg ls j).ay,Value.int .i64 (lg ls j).bx,Value.int .i64 (lg ls j).b_y][q]? =some v→w'.cell? ⟨b,o+j*4+q,none⟩ =some v:=fun w' hs q v hv=>by
 obtain ⟨b',o',e,_,h1,h2,h3,h4⟩ := (h w' hs).at_ hj
 injection e with e
 injection e with e1 e2 _
 subst e1 e2
 match q,hv with
 | 0,hv=>simp at hv;subst hv;exact h1
 | 1,hv=>simp at hv;subst hv;exact h2
 | 2,hv=>simp at hv;subst hv;exact h3
 | 3,hv=>simp at hv;subst hv;exact h4
theorem J5 {b o m j:Nat} {ls:List Leg} (h:∀w,St w0 Rs w→Legs w (some ⟨b,o,none⟩) m ls) (hj:j<m) :∀w',St w0 Rs w'→∀q v,[Value.int .i64 (lg ls j).ax,Value.int .i64 (lg ls j).ay][q]? =some v→w'.cell? ⟨b,o+j*4+0+q,none⟩ =some v:=fun w' hs q v hv=>
 ya h hj w' hs q v (by match q,hv with | 0,hv=>exact hv | 1,hv=>exact hv)
theorem JX {b o m j:Nat} {ls:List Leg} (h:∀w,St w0 Rs w→Legs w (some ⟨b,o,none⟩) m ls) (hj:j<m) :∀w',St w0 Rs w'→∀q v,[Value.int .i64 (lg ls j).bx,Value.int .i64 (lg ls j).b_y][q]? =some v→w'.cell? ⟨b,o+j*4+2+q,none⟩ =some v:=fun w' hs q v hv=>by
 have:=ya h hj w' hs (2+q) v (by match q,hv with | 0,hv=>exact hv | 1,hv=>exact hv)
 rwa [←jjw] at this
end
def Q2 (h:Bool) (l:Leg) :Leg:=if h=true then⟨2*l.ax,2*l.ay,2*l.bx,2*l.b_y⟩ else l
def Fq (l:Leg) (x y:Int) :Bool:=decide (l.ay≤y) &&decide (y<l.b_y) &&decide (0<Q8 l.ax l.ay l.bx l.b_y x y)
def ud (l:Leg) (x y:Int) :Bool:=decide (l.b_y≤y) &&decide (y<l.ay) &&decide (Q8 l.ax l.ay l.bx l.b_y x y<0)
def Qw (l:Leg) (x y:Int) :Int:=if Fq l x y=true then 1 else if ud l x y=true then-1 else 0
def vk (h:Bool) (ls:List Leg) (x y:Int) :Nat→Int
 | 0=>0
 | k+1=>vk h ls x y k+Qw (Q2 h (lg ls k)) x y
def jma (h:Bool) (ls:List Leg) (x y:Int) :Int:=vk h ls x y ls.length
theorem ZP (h:Bool) (ls:List Leg) (x y:Int) :∀k:Nat,-(k:Int)≤vk h ls x y k∧vk h ls x y k≤k
 | 0=>by simp [vk]
 | k+1=>by
  have:=ZP h ls x y k
  have h2: -1≤Qw (Q2 h (lg ls k)) x y∧Qw (Q2 h (lg ls k)) x y≤1:=by unfold Qw;split<;> (try split) <;>omega
  simp only [vk]
  omega
theorem QS {ls:List Leg} (h:∀l∈ls,qN l) {k:Nat} (hk:k<ls.length) :qN (lg ls k) :=by
 rw [←Uz hk]
 exact h _ (jis hk)
theorem PE (h:Bool) {l:Leg} (hl:qN l) :uB (Q2 h l).ax∧uB (Q2 h l).ay∧uB (Q2 h l).bx∧uB (Q2 h l).b_y:=by
 obtain ⟨⟨a1,a2⟩,⟨a3,a4⟩,⟨b1,b2⟩,b3,b4⟩ :=hl
 cases h
 ·simp only [Q2,uB,jjg,if_false];omega
 ·simp only [Q2,uB,if_true];omega
theorem jb7 {l:Leg} (hl:qN l) :uB l.ax∧uB l.ay∧uB l.bx∧uB l.b_y:=by
 obtain ⟨⟨a1,a2⟩,⟨a3,a4⟩,⟨b1,b2⟩,b3,b4⟩ :=hl
 refine⟨⟨?_,?_⟩,⟨?_,?_⟩,⟨?_,?_⟩,?_,?_⟩ <;>omega
theorem jpu {l:Leg} (hl:qN l) :uB (2*l.ax)∧uB (2*l.ay)∧uB (2*l.bx)∧uB (2*l.b_y) :=by
 obtain ⟨⟨a1,a2⟩,⟨a3,a4⟩,⟨b1,b2⟩,b3,b4⟩ :=hl
 refine⟨⟨?_,?_⟩,⟨?_,?_⟩,⟨?_,?_⟩,?_,?_⟩ <;>omega
theorem jdO {ls:List Leg} {x y:Int} {k:Nat} (h:Fq (lg ls k) x y=true) :vk false ls x y k+1=vk false ls x y (k+1) :=by
 simp [vk,Q2,Qw,h]
theorem N0 {ls:List Leg} {x y:Int} {k:Nat} (h:Fq (lg ls k) x y=false) (h2:ud (lg ls k) x y=true) :vk false ls x y k- 1=vk false ls x y (k+1) :=by
 simp [vk,Q2,Qw,h,h2];omega
theorem Pa {ls:List Leg} {x y:Int} {k:Nat} (h:Fq (lg ls k) x y=false) (h2:ud (lg ls k) x y=false) :vk false ls x y k=vk false ls x y (k+1) :=by
 simp [vk,Q2,Qw,h,h2]
theorem MS (x y:Int) (w:World) (h1:uB x) (h2:uB y) :Calls Tryz.prog 247 #[uS x y] w fun e w'=>e= .returned (uS (2*x) (2*y))∧Over w w':=by
 refine Jh (m:=10) (Tryz.func247) J J (lb J) ?_;refine S3 ?_;refine aX (fun b1=> ?_);refine N1 ?_;refine aL (fun b2=> ?_);refine N9 ?_;refine a9 (JU J J (q8 J J)) ?_;refine S4 ?_;refine jM J (qh (k:=1) J jj J J) ?_
 intro w' hs
 exact⟨rfl,hs.fin⟩
theorem B8 (A:Option Addr) (n c:Nat) (ls:List Leg) (x y:Int) (hf:Bool) (w:World) (h:Legs w A n ls) (hn:n≤1048576) (hok:∀l∈ls,qN l) (hx:uB x) (hy:uB y) :
  Calls Tryz.prog 196 #[.slice A n c,uS x y, .bool hf] w fun e w'=>e= .returned (.int .i64 (jma hf ls x y))∧Over w w':=by
 have hl:=h.1
 refine Jh (m:=73) (Tryz.func196) J J (lb J) ?_;refine S3 ?_;refine aX (fun b1=> ?_);refine N14 ?_;refine qz (X:=Nat) (fun k=>k≤n) (fun k=>n- k) (fun k=> [(7, .int .i64 (vk hf ls x y k)),(14, .int .i64 (k:Int))]) (kK [2,4,6,12,13]) 0 (jii _) ⟨J,sz⟩ ?_
 intro k hk L hL1
 refine v9 ?_
 have hwb:=ZP hf ls x y k
 refine S5 ?_;refine cZ (fun c1=> ?_) (fun c1=> ?_)
 ·have hlt:k<n:=Om
  obtain ⟨bb,oo,rfl⟩ :=h.form Om
  have hle:=QS hok (show k<ls.length by omega)
  obtain ⟨d1,d2,d3,d4⟩ :=PE hf hle
  obtain ⟨⟨e1,e2⟩,⟨e3,e4⟩,⟨e5,e6⟩,e7,e8⟩ :=hle
  refine S7 ?_;refine a9 (jk J J qG J (ya (fun w' hs=>h.over hs.fin) hlt)) ?_;refine S1 ?_;refine aL (fun b2=> ?_);refine N5 ?_;refine JS 8 ?_;refine dK 0 ?_;refine dK 1 ?_;refine dK 2 ?_;refine dK 3 ?_;refine FH (i:=4) (j:=5) J J Dc Dc Dc J J J J Dc Dc Dc J J jH jH Kr Kr Kr (u9 J) (fun b3 b4=> ?_);refine n9 ?_;refine qe (i:=6) J Dc Kr J ?_;refine S1 ?_;refine JO (u9 J) ?_;refine qe (i:=7) J Dc Kr J ?_;refine S1 ?_;refine JO (u9 J) ?_;refine JK Kr ?_;refine S1 ?_;refine uf [] ([.cel b1 56 [.int .i64 x, .int .i64 y], .cel b2 131 (jZ (lg ls k)), .cel b3 56 [.int .i64 (Q2 hf (lg ls k)).ax, .int .i64 (Q2 hf (lg ls k)).ay], .cel b4 56 [.int .i64 (Q2 hf (lg ls k)).bx, .int .i64 (Q2 hf (lg ls k)).b_y]]) (kK [2,4,6,12,13,7,14,15,16,17,9,18,19,20,21,10,11]) (fun L h_t22=> ?_) ?_
  ·refine S4 ?_;refine cZ (fun c2=> ?_) (fun c2=> ?_)
   ·refine S1 ?_;refine JS 4 ?_;refine dK 0 ?_;refine dZ 1 J (jT zZ J J (fun w h=>MS _ _ w ⟨by omega,by omega⟩ ⟨by omega,by omega⟩)) ?_;refine dV 2 [3] ?_;refine dZ 3 J (jT zZ J J (fun w h=>MS _ _ w ⟨by omega,by omega⟩ ⟨by omega,by omega⟩)) ?_;refine vg J Kr J ?_;refine S1 ?_;refine Qx 6 [3] ?_;refine qe (i:=5) J Dc Kr J ?_;refine S1 ?_;refine JO (uw [3] J) ?_;refine JK Kr ?_;refine S1 ?_
    exact Jk h_t22 ⟨J,sz⟩ (fun _ h=>h.upto ⟨J,J,by rw [Q2,if_pos c2],by rw [Q2,if_pos c2],trivial⟩)
   ·refine S2 ?_
    exact Jk h_t22 ⟨J,sz⟩ (fun _ h=>h.upto ⟨J,J,by rw [Q2,c2];rfl,by rw [Q2,c2];rfl,trivial⟩)
  ·refine V1 ?_;refine qt [(27, .bool (Fq (Q2 hf (lg ls k)) x y))] (kK [2,4,6,12,13,7,14,15,16,17,9,18,19,20,21,10,11]) (fun L h_8=> ?_) ?_
   ·refine S7 ?_;refine cV 33 (fun g1=> ?_) (fun g1=> ?_)
    ·refine S12 ?_;refine cV 40 (fun g2=> ?_) (fun g2=> ?_)
     ·refine S7 ?_;refine o9 (jT KD J J (fun w h=>Gl _ _ _ _ _ _ w d1.1 d1.2 d2.1 d2.2 d3.1 d3.2 d4.1 d4.2 hx.1 hx.2 hy.1 hy.2)) ?_;refine S5 ?_
      exact Jk h_8 ⟨vb (by simp [Fq, *]),sz⟩ (u9 J)
     ·refine S8 ?_
      exact Jk h_8 ⟨vb (by symm;simp [Fq];omega),sz⟩ (u9 J)
    ·refine S15 ?_
     exact Jk h_8 ⟨vb (by symm;simp [Fq];omega),sz⟩ (u9 J)
   ·refine v9 ?_;refine cZ (fun c3=> ?_) (fun c3=> ?_)
    ·refine S12 ?_
     exact qi hL1 (k+1) Om Om ⟨vi (by rw [vk,Qw,if_pos c3]),vi Om,sz⟩ (u9 J)
    ·refine qt [(49, .bool (ud (Q2 hf (lg ls k)) x y))] (kK [2,4,6,12,13,7,14,15,16,17,9,18,19,20,21,10,11,27]) (fun L h_10=> ?_) ?_
     ·refine S7 ?_;refine cV 55 (fun g3=> ?_) (fun g3=> ?_)
      ·refine S12 ?_;refine cV 62 (fun g4=> ?_) (fun g4=> ?_)
       ·refine S7 ?_;refine o9 (jT KD J J (fun w h=>Gl _ _ _ _ _ _ w d1.1 d1.2 d2.1 d2.2 d3.1 d3.2 d4.1 d4.2 hx.1 hx.2 hy.1 hy.2)) ?_;refine S5 ?_
        exact Jk h_10 ⟨vb (by simp [ud, *]),sz⟩ (u9 J)
       ·refine S8 ?_
        exact Jk h_10 ⟨vb (by symm;simp [ud];omega),sz⟩ (u9 J)
      ·refine S15 ?_
       exact Jk h_10 ⟨vb (by symm;simp [ud];omega),sz⟩ (u9 J)
     ·refine v9 ?_;refine cZ (fun c4=> ?_) (fun c4=> ?_)
      ·refine S12 ?_
       exact qi hL1 (k+1) Om Om ⟨vi (by rw [vk,Qw,c3,if_neg (by simp),if_pos c4];rfl),vi Om,sz⟩ (u9 J)
      ·refine S8 ?_
       exact qi hL1 (k+1) Om Om ⟨vi (by rw [vk,Qw,c3,if_neg (by simp),c4,if_neg (by simp)];omega),vi Om,sz⟩ (u9 J)
 ·refine S11 ?_;refine jM J (.tmp J) ?_
  intro w' hs
  exact⟨YF (by rw [jma,hl,show k=n by omega]),hs.fin⟩
end Go.Proofs.YtpncbbcmoiiipaaGreat
