import Derived.Test.YtpncbbcmoiiipaaMRegBounds
import Derived.Test.YtpncbbcmoiiipaaMOn
import Derived.Test.YtpncbbcmoiiipaaMValidRegion
set_option linter.unusedVariables false
set_option linter.unusedSimpArgs false
namespace Go.Proofs.Ytpncbbcmoiiipaa
open Go Go.RowKit
def smallR (rs:List jx) :Prop:=rs.length≤2000∧∀j,j<rs.length→(rg rs j).length≤500
theorem wX {rs:List jx} (h:smallR rs) :∀k,k≤rs.length→K0 rs k≤500*k
 | 0,_=>by simp [K0]
 | k+1,hk=>by
  have:=wX h k Om
  have:=h.2 k Om
  simp only [K0]
  omega
theorem smallR.total {rs:List jx} (h:smallR rs) : (Go.Proofs.Ytpncbbcmoiiipaa.Qq rs:Int)≤1048576:=by
 have:=wX h rs.length (DM _)
 have:=h.1
 unfold Go.Proofs.Ytpncbbcmoiiipaa.Qq
 omega
theorem smallR.sum {rs:List jx} (h:smallR rs) {n:Nat} (hn:rs.length=n) :1+2* (K0 rs n:Nat)≤(4611686018427387904:Int)∧n≤4611686018427387904:=by
 have:=wX h n Om
 have:=h.1
 omega
theorem smallR.nil:smallR [] :=⟨by simp,fun j hj=>absurd hj (by simp)⟩
theorem smallR.of {rs:List jx} (h:Je rs=true) :smallR rs:=⟨by have:=we h;omega,fun j hj=>by have:=qN (kC h hj);omega⟩
section
variable {w0:Bs} {Rs:List Res}
theorem BK {k n lo hi:Nat} {A:Option Addr} {rs:List jx} (hk:Rs[k]? =some (vy n rs lo hi A)) (w:World) (hs:St w0 Rs w) :OwnG lo hi w A n rs:=HC (hs.all k _ hk).1
theorem Kn {k n lo hi:Nat} {A:Option Addr} {rs:List jx} (hk:Rs[k]? =some (vy n rs lo hi A)) (w:World) (hs:St w0 Rs w) :Rings w A n rs:= (BK hk w hs).rings
theorem BQ {k n lo hi:Nat} {A:Option Addr} {xs:List (Int×Int)} (hk:Rs[k]? =some (uY n xs lo hi A)) (w:World) (hs:St w0 Rs w) :OwnP lo hi w A n xs:=OG (hs.all k _ hk).1
theorem OI {k n lo hi:Nat} {A:Option Addr} {xs:List (Int×Int)} (hk:Rs[k]? =some (uY n xs lo hi A)) (w:World) (hs:St w0 Rs w) :Pts w A n xs:= (BQ hk w hs).pts
end
theorem OH {P:Program} {f:FuncId} {args:Array Value} {w1:World} {n:Nat} {xs:List (Int×Int)} {V:Option Addr→Nat→Value} (h:Calls P f args w1 fun e w'=>∃A c,e= .returned (V A c)∧OwnP w1.heap.size w'.heap.size w' A n xs∧Over w1 w') :
  Calls P f args w1 fun e w'=>∃x: (Option Addr×Nat)×Nat×Nat,e= .returned (V x.1.1 x.1.2)∧Over w1 w'∧(uY n xs x.2.1 x.2.2 x.1.1).P w'∧(∀b,(uY n xs x.2.1 x.2.2 x.1.1).F b→w1.heap.size≤b)∧(uY n xs x.2.1 x.2.2 x.1.1).B=0∧True:=by
 refine h.mono ?_
 rintro e w' ⟨A,c,rfl,ho,hO⟩
 exact⟨((A,c),w1.heap.size,w'.heap.size),rfl,hO,My ho (DM _),fun b hb=>hb.1,sz⟩
section
variable {w:World} {w0:Bs} {Rs:List Res}
theorem Legs.form {A:Option Addr} {n:Nat} {ls:List Leg} (h:Legs w A n ls) (hn:0<n) :∃b o,A=some ⟨b,o,none⟩ :=by
 obtain ⟨b,o,rfl,_⟩ :=h.2 hn
 exact⟨b,o,rfl⟩
theorem U4 {b o m j:Nat} {ls:List Leg} (h:∀w,St w0 Rs w→Legs w (some ⟨b,o,none⟩) m ls) (hj:j<m) :∀w',St w0 Rs w'→∀q v,[Value.int .i64 (lg ls j).ax,Value.int .i64 (lg ls j).ay,Value.int .i64 (lg ls j).bx,Value.int .i64 (lg ls j).b_y][q]? =some v→w'.cell? ⟨b,o+j*4+q,none⟩ =some v:=fun w' hs q v hv=>by
 obtain ⟨b',o',e,_,h1,h2,h3,h4⟩ := (h w' hs).at_ hj
 injection e with e
 injection e with e1 e2 _
 subst e1 e2
 match q,hv with
 | 0,hv=>simp at hv;subst hv;exact h1
 | 1,hv=>simp at hv;subst hv;exact h2
 | 2,hv=>simp at hv;subst hv;exact h3
 | 3,hv=>simp at hv;subst hv;exact h4
theorem Lr {b o m j:Nat} {ls:List Leg} (h:∀w,St w0 Rs w→Legs w (some ⟨b,o,none⟩) m ls) (hj:j<m) :∀w',St w0 Rs w'→∀q v,[Value.int .i64 (lg ls j).ax,Value.int .i64 (lg ls j).ay][q]? =some v→w'.cell? ⟨b,o+j*4+0+q,none⟩ =some v:=fun w' hs q v hv=>
 U4 h hj w' hs q v (by match q,hv with | 0,hv=>exact hv | 1,hv=>exact hv)
theorem Ls {b o m j:Nat} {ls:List Leg} (h:∀w,St w0 Rs w→Legs w (some ⟨b,o,none⟩) m ls) (hj:j<m) :∀w',St w0 Rs w'→∀q v,[Value.int .i64 (lg ls j).bx,Value.int .i64 (lg ls j).b_y][q]? =some v→w'.cell? ⟨b,o+j*4+2+q,none⟩ =some v:=fun w' hs q v hv=>by
 have:=U4 h hj w' hs (2+q) v (by match q,hv with | 0,hv=>exact hv | 1,hv=>exact hv)
 rwa [←Nat.add_assoc] at this
end
def W0 (h:Bool) (l:Leg) :Leg:=if h=true then⟨2*l.ax,2*l.ay,2*l.bx,2*l.b_y⟩ else l
def ML (l:Leg) (x y:Int) :Bool:=decide (l.ay≤y) &&decide (y<l.b_y) &&decide (0<QX l.ax l.ay l.bx l.b_y x y)
def uG (l:Leg) (x y:Int) :Bool:=decide (l.b_y≤y) &&decide (y<l.ay) &&decide (QX l.ax l.ay l.bx l.b_y x y<0)
def Vu (l:Leg) (x y:Int) :Int:=if ML l x y=true then 1 else if uG l x y=true then-1 else 0
def Q0 (h:Bool) (ls:List Leg) (x y:Int) :Nat→Int
 | 0=>0
 | k+1=>Q0 h ls x y k+Vu (W0 h (lg ls k)) x y
def wind (h:Bool) (ls:List Leg) (x y:Int) :Int:=Q0 h ls x y ls.length
theorem YC (h:Bool) (ls:List Leg) (x y:Int) :∀k:Nat,-(k:Int)≤Q0 h ls x y k∧Q0 h ls x y k≤k
 | 0=>by simp [Q0]
 | k+1=>by
  have:=YC h ls x y k
  have h2: -1≤Vu (W0 h (lg ls k)) x y∧Vu (W0 h (lg ls k)) x y≤1:=by unfold Vu;split<;> (try split) <;>omega
  simp only [Q0]
  omega
theorem Qw {ls:List Leg} (h:∀l∈ls,kq l) {k:Nat} (hk:k<ls.length) :kq (lg ls k) :=by
 rw [←ZY hk]
 exact h _ (DR hk)
theorem HW {l:Leg} (hl:kq l) :wy l.ax∧wy l.ay∧wy l.bx∧wy l.b_y:=by
 obtain ⟨⟨a1,a2⟩,⟨a3,a4⟩,⟨b1,b2⟩,b3,b4⟩ :=hl
 refine⟨⟨?_,?_⟩,⟨?_,?_⟩,⟨?_,?_⟩,?_,?_⟩ <;>omega
theorem LO {ls:List Leg} {x y:Int} {k:Nat} (h:ML (lg ls k) x y=true) :Q0 false ls x y k+1=Q0 false ls x y (k+1) :=by
 simp [Q0,W0,Vu,h]
theorem x3 {ls:List Leg} {x y:Int} {k:Nat} (h:ML (lg ls k) x y=false) (h2:uG (lg ls k) x y=true) :Q0 false ls x y k- 1=Q0 false ls x y (k+1) :=by
 simp [Q0,W0,Vu,h,h2];omega
theorem x4 {ls:List Leg} {x y:Int} {k:Nat} (h:ML (lg ls k) x y=false) (h2:uG (lg ls k) x y=false) :Q0 false ls x y k=Q0 false ls x y (k+1) :=by
 simp [Q0,W0,Vu,h,h2]
end Go.Proofs.Ytpncbbcmoiiipaa
