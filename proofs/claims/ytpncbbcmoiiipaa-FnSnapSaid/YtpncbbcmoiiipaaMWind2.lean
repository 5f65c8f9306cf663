import Derived.Test.YtpncbbcmoiiipaaMLawKit
import Derived.Test.YtpncbbcmoiiipaaMValidRegion
import Derived.Test.YtpncbbcmoiiipaaMReg3
set_option linter.unusedVariables false
set_option linter.unusedSimpArgs false
namespace Go.Proofs.Ytpncbbcmoiiipaa
open Go Go.RowKit
set_option maxRecDepth 100000
set_option maxHeartbeats 4000000
def O9 (l:Leg) :Prop:=wy l.ax∧wy l.ay∧wy l.bx∧wy l.b_y
theorem MU {ls:List Leg} {k:Nat} (h:k<ls.length) :lg ls k∈ls:=ZY h▸DR h
theorem YW (A:Option Addr) (n c:Nat) (ls:List Leg) (x y:Int) (w:World) (h:Legs w A n ls) (hn:n≤1048576) (hok:∀l∈ls,O9 l) (hx:wy x) (hy:wy y) :
  Calls Try.prog 25 #[.slice A n c,vS x y] w fun e w'=>e= .returned (.int .i64 (wind false ls x y))∧Over w w':=by
 have hl:=h.1
 refine Jh (m:=70) (Try.func25) J J (lb J) ?_;refine S3 ?_;refine aX (fun b1=> ?_);refine Da ?_;refine qC (X:=Nat) (fun k=>k≤n) (fun k=>n- k) (fun k=> [(5, .int .i64 (Q0 false ls x y k)),(6, .int .i64 (k:Int))]) (kK [0,3,4]) 0 (DQ _) ⟨J,sz⟩ ?_
 intro k hk L hL1
 refine v9 ?_
 have hwb:=YC false ls x y k
 refine S8 ?_;refine cZ (fun c1=> ?_) (fun c1=> ?_)
 ·have hlt:k<n:=Om
  obtain ⟨bb,oo,rfl⟩ :=h.form Om
  obtain ⟨d1,d2,d3,d4⟩ :=hok _ (MU (show k<ls.length by omega))
  refine Dg ?_;refine a9 (jj J J jh J (Lr (b:=bb) (o:=oo) (j:=k) (fun w' hs=>h.over hs.fin) hlt)) ?_;refine S1 ?_;refine aL (fun b2=> ?_);refine N9 ?_;refine a9 (jj J J jh J (Ls (b:=bb) (o:=oo) (j:=k) (fun w' hs=>h.over hs.fin) hlt)) ?_;refine S1 ?_;refine aL (fun b3=> ?_);refine N4 ?_;refine ky [(25, .bool (ML (lg ls k) x y))] (kK [0,3,4,5,6,9,10,11,12,15,16,17,18,19,7,20,21,22,23,24,8]) (fun L h_7=> ?_) ?_
  ·refine S7 ?_;refine cV 31 (fun g1=> ?_) (fun g1=> ?_)
   ·refine Di ?_;refine cV 38 (fun g2=> ?_) (fun g2=> ?_)
    ·refine S7 ?_;refine o9 (jN kB J J (fun w h=>vc _ _ _ _ _ _ w d1.1 d1.2 d2.1 d2.2 d3.1 d3.2 d4.1 d4.2 hx.1 hx.2 hy.1 hy.2)) ?_;refine S5 ?_
     exact JB h_7 ⟨vb (by simp [ML, *]),sz⟩ (u9 J)
    ·refine S8 ?_
     exact JB h_7 ⟨vb (by symm;simp [ML];omega),sz⟩ (u9 J)
   ·refine Dl ?_
    exact JB h_7 ⟨vb (by symm;simp [ML];omega),sz⟩ (u9 J)
  ·refine v9 ?_;refine cZ (fun c2=> ?_) (fun c2=> ?_)
   ·refine Dj ?_
    exact qy hL1 (k+1) Om Om ⟨vi (LO c2),vi Om,sz⟩ (u9 J)
   ·refine ky [(47, .bool (uG (lg ls k) x y))] (kK [0,3,4,5,6,9,10,11,12,15,16,17,18,19,7,20,21,22,23,24,8,25]) (fun L h_9=> ?_) ?_
    ·refine S7 ?_;refine cV 53 (fun g3=> ?_) (fun g3=> ?_)
     ·refine Di ?_;refine cV 60 (fun g4=> ?_) (fun g4=> ?_)
      ·refine S7 ?_;refine o9 (jN kB J J (fun w h=>vc _ _ _ _ _ _ w d1.1 d1.2 d2.1 d2.2 d3.1 d3.2 d4.1 d4.2 hx.1 hx.2 hy.1 hy.2)) ?_;refine S5 ?_
       exact JB h_9 ⟨vb (by simp [uG, *]),sz⟩ (u9 J)
      ·refine S8 ?_
       exact JB h_9 ⟨vb (by symm;simp [uG];omega),sz⟩ (u9 J)
     ·refine Dl ?_
      exact JB h_9 ⟨vb (by symm;simp [uG];omega),sz⟩ (u9 J)
    ·refine v9 ?_;refine cZ (fun c3=> ?_) (fun c3=> ?_)
     ·refine Dj ?_
      exact qy hL1 (k+1) Om Om ⟨vi (x3 c2 c3),vi Om,sz⟩ (u9 J)
     ·refine S9 ?_
      exact qy hL1 (k+1) Om Om ⟨vi (x4 c2 c3),vi Om,sz⟩ (u9 J)
 ·refine Dh ?_;refine jG J (.tmp J) ?_
  intro w' hs
  exact⟨OK (by rw [wind,hl,show k=n by omega]),hs.fin⟩
theorem UU (A:Option Addr) (n c:Nat) (ls:List Leg) (x y:Int) (w:World) (h:Legs w A n ls) (hn:n≤1048576) (hok:∀l∈ls,kq l) (hx:wy x) (hy:wy y) :
  Calls Try.prog 25 #[.slice A n c,vS x y] w fun e w'=>e= .returned (.int .i64 (wind false ls x y))∧Over w w':=YW A n c ls x y w h hn (fun l hl=>HW (hok l hl)) hx hy
def Bh (l:Leg) (x y:Int) :Bool:=xB l.ax l.ay l.bx l.b_y x y
def We (h:Bool) (ls:List Leg) (x y:Int) :Bool:=ls.any fun l=>Bh (W0 h l) x y
def W9 (h:Bool) (ls:List Leg) (x y:Int) (k:Nat) :Prop:=∀j,j<k→Bh (W0 h (lg ls j)) x y=false
theorem Zh {h:Bool} {ls:List Leg} {x y:Int} {k:Nat} (hk:W9 h ls x y k) (h1:Bh (W0 h (lg ls k)) x y=false) :W9 h ls x y (k+1) :=fun j hj=>by
 by_cases e:j=k
 ·exact e▸h1
 ·exact hk j Om
theorem ZV {h:Bool} {ls:List Leg} {x y:Int} (hk:W9 h ls x y ls.length) :We h ls x y=false:=by
 unfold We
 rw [Ia]
 intro l hl
 obtain ⟨j,hj,rfl⟩ :=Fe hl
 rw [ZY hj]
 simpa using hk j hj
theorem ZW {h:Bool} {ls:List Leg} {x y:Int} {k:Nat} (hk:k<ls.length) (h1:Bh (W0 h (lg ls k)) x y=true) :We h ls x y=true:=by
 unfold We
 rw [List.any_eq_true]
 exact⟨ls[k],DR hk,by rw [ZY hk];exact h1⟩
theorem Z8 (l:Leg) :W0 false l=l:=by simp [W0]
theorem zD {ls:List Leg} {x y:Int} {k:Nat} (hk:k<ls.length) (h1:xB (lg ls k).ax (lg ls k).ay (lg ls k).bx (lg ls k).b_y x y=true) :We false ls x y=true:=
 ZW hk (by rw [Z8];exact h1)
theorem xy {ls:List Leg} {x y:Int} {k:Nat} (hk:W9 false ls x y k) (h1:xB (lg ls k).ax (lg ls k).ay (lg ls k).bx (lg ls k).b_y x y=false) :W9 false ls x y (k+1) :=
 Zh hk (by rw [Z8];exact h1)
theorem xr (A:Option Addr) (n c:Nat) (ls:List Leg) (x y:Int) (w:World) (h:Legs w A n ls) (hn:n≤1048576) (hok:∀l∈ls,O9 l) (hx:wy x) (hy:wy y) :
  Calls Try.prog 24 #[.slice A n c,vS x y] w fun e w'=>e= .returned (.bool (We false ls x y))∧Over w w':=by
 have hl:=h.1
 refine Jh (m:=24) (Try.func24) J J (lb J) ?_;refine S3 ?_;refine aX (fun b1=> ?_);refine N8 ?_;refine qC (X:=Nat) (fun k=>k≤n∧W9 false ls x y k) (fun k=>n- k) (fun k=> [(5, .int .i64 (k:Int))]) (kK [0,3,4]) 0 (⟨DQ _,fun j hj=>absurd hj Om⟩) ⟨J,sz⟩ ?_
 intro k hk L hL1
 refine V8 ?_;refine cZ (fun c1=> ?_) (fun c1=> ?_)
 ·have hlt:k<n:=Om
  obtain ⟨bb,oo,rfl⟩ :=h.form Om
  obtain ⟨d1,d2,d3,d4⟩ :=hok _ (MU (show k<ls.length by omega))
  refine S6 ?_;refine qb 12 ?_;refine dK 0 ?_;refine dK 1 ?_;refine dK 2 ?_;refine dK 3 ?_;refine dZ 4 J (jj J J jh J (Lr (b:=bb) (o:=oo) (j:=k) (fun w' hs=>h.over hs.fin) hlt)) ?_;refine dK 5 ?_;refine dK 6 ?_;refine dK 7 ?_;refine dK 8 ?_;refine dZ 9 J (jj J J jh J (Ls (b:=bb) (o:=oo) (j:=k) (fun w' hs=>h.over hs.fin) hlt)) ?_;refine dK 10 ?_;refine dZ 11 J (jN yI J J (fun w h=>Gx _ _ _ _ _ _ w d1 d2 d3 d4 hx hy)) ?_;refine JI Kr ?_;refine S1 ?_;refine cZ (fun c2=> ?_) (fun c2=> ?_)
  ·refine Dg ?_;refine jG J (.tmp J) ?_
   intro w' hs
   exact⟨Qy (zD (show k<ls.length by omega) c2).symm,hs.fin⟩
  ·refine S8 ?_
   exact qy hL1 (k+1) (⟨by omega,xy hk.2 c2⟩) Om ⟨vi Om,sz⟩ (u9 J)
 ·refine Dg ?_;refine jG J (.tmp J) ?_
  intro w' hs
  exact⟨Qy (ZV (by rw [hl,show n=k by omega];exact hk.2)).symm,hs.fin⟩
theorem YV (A:Option Addr) (n c:Nat) (ls:List Leg) (x y:Int) (w:World) (h:Legs w A n ls) (hn:n≤1048576) (hok:∀l∈ls,kq l) (hx:wy x) (hy:wy y) :
  Calls Try.prog 24 #[.slice A n c,vS x y] w fun e w'=>e= .returned (.bool (We false ls x y))∧Over w w':=xr A n c ls x y w h hn (fun l hl=>HW (hok l hl)) hx hy
end Go.Proofs.Ytpncbbcmoiiipaa
namespace Go.Proofs.Ytpncbbcmoiiipaa
open Go Go.RowKit
end Go.Proofs.Ytpncbbcmoiiipaa
namespace Go.Proofs.Ytpncbbcmoiiipaa
open Go Go.RowKit
set_option maxRecDepth 100000
set_option maxHeartbeats 4000000
def u7 (rs:List jx) (x y:Int) :Bool:=Je rs&&KD x y&& !We false (jv rs) x y
def LP (rs:List jx) (x y:Int) :Value:= .tuple #[.int .i64 (if u7 rs x y=true then wind false (jv rs) x y else 0), .bool (u7 rs x y)]
theorem x5 {rs:List jx} {x y:Int} (h:u7 rs x y=false) :Ending.returned (.tuple #[.int .i64 0, .bool false]) =Ending.returned (LP rs x y) :=by simp [LP,h]
theorem MN {rs:List jx} {x y:Int} (h:u7 rs x y=true) :Ending.returned (.tuple #[.int .i64 (wind false (jv rs) x y), .bool true]) =Ending.returned (LP rs x y) :=by simp [LP,h]
theorem vk (A:Option Addr) (n c:Nat) (rs:List jx) (x y:Int) (w:World) (h:Rings w A n rs) (ht: (Qq rs:Int)≤1048577) :
  Calls Try.prog 9 #[kP A n c,vS x y] w fun e w'=>e= .returned (LP rs x y)∧Over w w':=by
 refine Jh (m:=23) (Try.func9) J J (lb J) ?_;refine S3 ?_;refine aX (fun b1=> ?_);refine N1 ?_;refine aX (fun b2=> ?_);refine N6 ?_;refine QQ UZ (v:=fun x=> .slice x.1 _ x.2) (r:=fun x=>qx 0 85 4 _ _ x) (H:=fun _=>True) J J J (lb J) (fun w1 hs=>KH ((UT _ _ A n c rs w1 (qr (k:=0) J J w1 hs) (JE (hs.cel (k:=0) J)) (h.over hs.fin) ht).mono fun e w' ⟨v,h1,_,h2,h3⟩ =>⟨v,h1,h2,h3⟩)) ?_
 rintro⟨eA,ec⟩ -
 refine N5 ?_;refine a9 (jN yJ J J (fun w1 hs=>Gz _ _ A n c rs w1 (qr (k:=0) J J w1 hs) (JE (hs.cel (k:=0) J)) (h.over hs.fin) ht)) ?_;refine S2 ?_;refine cV 10 (fun g1=> ?_) (fun g1=> ?_)
 ·refine Dn ?_;refine qS J (.tmp J) (.tmp J) ?_
  intro w' hs
  exact⟨x5 (by simp [u7,g1]),hs.fin⟩
 ·refine S3 ?_;refine o9 (jN Kk J J (fun w1 hs=>KK x y w1)) ?_;refine S4 ?_;refine cV 15 (fun g2=> ?_) (fun g2=> ?_)
  ·refine Dj ?_;refine qS J (.tmp J) (.tmp J) ?_
   intro w' hs
   exact⟨x5 (by simp [u7,g2]),hs.fin⟩
  ·have hr:=g1
   have hp:=g2
   obtain ⟨hx,hy⟩ :=Ox hp
   refine S5 ?_;refine o9 (jN uh J J (fun w1 hs=>YV eA _ ec (jv rs) x y w1 (Vh (k:=2) J J w1 hs) (ZU hr) (U5 hr) hx hy)) ?_;refine S2 ?_;refine cZ (fun c1=> ?_) (fun c1=> ?_)
   ·refine S7 ?_;refine qS J (.tmp J) (.tmp J) ?_
    intro w' hs
    exact⟨x5 (by simp [u7,c1]),hs.fin⟩
   ·refine S6 ?_;refine a9 (jN wR J J (fun w1 hs=>UU eA _ ec (jv rs) x y w1 (Vh (k:=2) J J w1 hs) (ZU hr) (U5 hr) hx hy)) ?_;refine S4 ?_;refine qS J (.tmp J) (.tmp J) ?_
    intro w' hs
    exact⟨MN (by simp [u7,hr,hp,c1]),hs.fin⟩
end Go.Proofs.Ytpncbbcmoiiipaa
