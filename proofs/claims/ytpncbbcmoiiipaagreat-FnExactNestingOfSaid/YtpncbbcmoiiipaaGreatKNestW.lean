import Derived.Test.YtpncbbcmoiiipaaGreatKStO
import Derived.Test.YtpncbbcmoiiipaaGreatKNetT
import Derived.Test.YtpncbbcmoiiipaaGreatKCmbS
set_option linter.unusedVariables false
set_option linter.unusedSimpArgs false
namespace Go.Proofs.YtpncbbcmoiiipaaGreat
open Go Go.RowKit
set_option maxRecDepth 100000
set_option maxHeartbeats 4000000
def jlH (ls:List Leg) (k:Nat) :List Leg:= (ls.take k).map (Q2 true) ++ls.drop k
theorem jnH {ls:List Leg} {k:Nat} (h:k≤ls.length) : (jlH ls k).length=ls.length:=by simp [jlH];omega
theorem jnG {ls:List Leg} {k:Nat} (h:k<ls.length) : (jlH ls k)[k]? =some (lg ls k) :=by
 unfold jlH
 rw [List.getElem?_append_right (by simp;omega)]
 have: ((ls.take k).map (Q2 true)).length=k:=by simp;omega
 rw [this,jp3,List.getElem?_drop,jj2,jeI h]
theorem jpt {ls:List Leg} {k:Nat} (h:k<ls.length) :lg (jlH ls k) k=lg ls k:=by
 have h1:=jeI (l:=jlH ls k) (j:=k) (by rw [jnH Om];exact h)
 rw [jnG h] at h1
 injection h1 with h1
 exact h1.symm
theorem joX {ls:List Leg} {k:Nat} (h:k<ls.length) : (jlH ls k).set k (Q2 true (lg ls k)) =jlH ls (k+1) :=by
 have hl: ((ls.take k).map (Q2 true)).length=k:=by simp;omega
 have e1:ls.drop k=lg ls k::ls.drop (k+1) :=by rw [jiY h,Uz h]
 unfold jlH
 rw [jjI _ _ Om,hl,jp3,e1,jp2,jin h,jiO,Uz h,jil]
 rfl
theorem joW (ls:List Leg) :jlH ls ls.length=ls.map (Q2 true) :=by simp [jlH]
section
variable {w0:Bs} {Rs:List Res}
theorem jnA {b m j:Nat} {ls:List Leg} (h:∀w,St w0 Rs w→Legs w (some ⟨b,0,none⟩) m ls) (hj:j<m) (q:Nat) {off:Nat} {v:Value} (he:off=0+j*4+q) (hv: [Value.int .i64 (lg ls j).ax,Value.int .i64 (lg ls j).ay,Value.int .i64 (lg ls j).bx,Value.int .i64 (lg ls j).b_y][q]? =some v) :∀w',St w0 Rs w'→w'.cell? ⟨b,off,none⟩ =some v:=fun w' hs=>he▸ya h hj w' hs q v hv
end
theorem jmz {l:Leg} (h:qN l) : (-262144≤l.ax∧l.ax≤262144)∧(-262144≤l.ay∧l.ay≤262144)∧(-262144≤l.bx∧l.bx≤262144)∧(-262144≤l.b_y∧l.b_y≤262144) :=h
theorem jmI {xs:jV} (h:QA xs=true) :∀l∈J0 xs,qN l:=Yr (uJ h).2.2 _ (jih _)
theorem jlT {xs:jV} (h:QA xs=true) : (J0 xs).length≤400:=jjb (TZ xs) (uJ h).2.1
abbrev jo4 (T n:Nat) (ls:List Leg) (x:Option Addr×Nat) :Res:=JY 0 T 4 n (ls.flatMap jZ) x
theorem jlD (bb oo:Nat) (A:Option Addr) (n c:Nat) (xs:jV) (w:World) (hcell:w.cell? ⟨bb,oo,none⟩ =some (.slice A n c)) (hbb:bb<w.heap.size) (h:Pts w A n xs) (hr:QA xs=true) :
  Calls Tryz.prog 194 #[.pointer (some ⟨bb,oo,none⟩)] w fun e w'=>∃x:Option Addr×Nat,e= .returned (.slice x.1 (J0 xs).length x.2)∧Over w w'∧(jo4 120 (J0 xs).length ((J0 xs).map (Q2 true)) x).P w'∧(∀b,(jo4 120 (J0 xs).length ((J0 xs).map (Q2 true)) x).F b→w.heap.size≤b)∧(jo4 120 (J0 xs).length ((J0 xs).map (Q2 true)) x).B=0∧True:=by
 have hok:=jmI hr
 have h4:=jlT hr
 have hn: (n:Int)≤1048577:=by have:= (uJ hr).2.1;have:=h.1;omega
 refine Jh (m:=30) (Tryz.func194) J J (lb J) ?_;refine S8 ?_;refine J4 yV (v:=fun x=> .slice x.1 (J0 xs).length x.2) (r:=fun x=>JY 0 120 4 (J0 xs).length ((J0 xs).flatMap jZ) x) (H:=fun _=>True) J J J (lb J) (fun w1 hs=>Qh ((Yu bb oo A n c xs w1 (Qm hcell hbb w1 hs) (jiu hbb hs.fin.size) (h.over hs.fin) hn).mono fun e w' ⟨v,h1,_,h2,h3⟩ =>⟨v,h1,h2,h3⟩)) ?_
 rintro⟨eA,ec⟩ -
 refine N2 ?_
 obtain ⟨E,hE⟩ :∃E,E=J0 xs:=⟨_,rfl⟩
 rw [←hE] at hok h4⊢
 refine S6 ?_;refine JQ (X:=Nat) (fun k=>k≤E.length) (fun k=>E.length- k) (fun k=> [(4, .int .i64 (k:Int))]) (kK [2,3]) (fun k=> [JY 0 120 4 E.length ((jlH E k).flatMap jZ) (eA,ec)]) 0 (jii _) ⟨J,sz⟩ (fun _ h=>h.upto ⟨by simp [jlH],trivial⟩) ?_
 intro k hk L hL1
 refine v9 ?_;refine r9 ?_;refine S8 ?_;refine cZ (fun c1=> ?_) (fun c1=> ?_)
 ·have hlt:k<E.length:=Om
  have hdl:=jnH (ls:=E) (k:=k) Om
  have hat:=jpt hlt
  have hlg:=QS hok hlt
  obtain ⟨⟨l1,l2⟩,⟨l3,l4⟩,⟨l5,l6⟩,l7,l8⟩ :=jmz hlg
  refine ky (fun w hs=>VJ (k:=0) J hs Om) ?_
  rintro⟨eg,rfl⟩
  refine S5 ?_;refine JS 16 ?_;refine dK 0 ?_;refine dK 1 ?_;refine dK 2 ?_;refine dK 3 ?_;refine dK 4 ?_;refine dK 5 ?_;refine dZ 6 J (jk J J jj J (hat▸J5 (b:=eg) (o:=0) (fun w1 hs=>JC (k:=0) (x:= (some ⟨eg,0,none⟩,ec)) (ls:=jlH E k) J hdl w1 hs) hlt)) ?_;refine dZ 7 J (jT yT J J (fun w1 hs=>C2 (lA (lg E k)) w1 (VG hlg))) ?_;refine dK 8 ?_;refine dK 9 ?_;refine dK 10 ?_;refine dK 11 ?_;refine dZ 12 J (jk J J jj J (hat▸JX (b:=eg) (o:=0) (fun w1 hs=>JC (k:=0) (x:= (some ⟨eg,0,none⟩,ec)) (ls:=jlH E k) J hdl w1 hs) hlt)) ?_;refine dZ 13 J (jT yT J J (fun w1 hs=>C2 (lB (lg E k)) w1 (wq hlg))) ?_;refine dZ 14 J (JU J J (uC J J)) ?_;refine dK 15 ?_;refine vg J Kr J ?_;refine Uw (k:=0) (vs:=jZ (Q2 true (lg E k))) J J J J (by rfl) (by rfl) ku.szx J J (Nat.succ_pos 3) (by rw [WG jZ 4 (fun _=>rfl),hdl];show 0+k*4+4≤E.length*4;omega) ?_;refine n9 ?_
  rw [UZ (m:=4) (off:=0+k*4) jZ (fun _=>rfl) (jnG hlt) [] (jZ (lg E k)) (jZ (Q2 true (lg E k))) [] rfl rfl rfl (by simp),joX hlt]
  refine yn Kr ?_;refine S7 ?_
  exact Ji hL1 (k+1) ((show k+1≤E.length by omega)) Om ⟨vi Om,sz⟩ (u9 J)
 ·have hke:k=E.length:=Om
  subst hke
  rw [joW]
  refine S11 ?_;refine jM J (.tmp J) ?_
  intro w' hs
  exact⟨(eA,ec),rfl,hs.fin,(hs.all 0 _ rfl).1,fun b hb=> ((hs.all 0 _ rfl).2.1 b hb).elim id (fun h=>by cases h),sz⟩
theorem jpQ {E:List Leg} {k:Nat} (h:k<E.length) : ((lg (E.map (Q2 true)) k).ax+ (lg (E.map (Q2 true)) k).bx).tdiv 2= (jkL (lg E k)).1∧((lg (E.map (Q2 true)) k).ay+ (lg (E.map (Q2 true)) k).b_y).tdiv 2= (jkL (lg E k)).2:=by
 rw [jo5 _ h,jn5]
 have key:∀a b:Int,(2*a+2*b).tdiv 2=a+b:=fun a b=>by
  rw [←Int.mul_add,Int.mul_tdiv_cancel_left _ Dc]
 exact⟨key _ _,key _ _⟩
theorem jo8 {E:List Leg} {k:Nat} (hok:∀l∈E,qN l) (h:k<E.length) :uB (jkL (lg E k)).1∧uB (jkL (lg E k)).2:=by
 obtain ⟨⟨l1,l2⟩,⟨l3,l4⟩,⟨l5,l6⟩,l7,l8⟩ :=jmz (QS hok h)
 exact⟨⟨by simp only [jkL];omega,by simp only [jkL];omega⟩,by simp only [jkL];omega,by simp only [jkL];omega⟩
theorem joY {E:List Leg} (hok:∀l∈E,qN l) :∀l∈E.map (Q2 true),jhy l:=fun l hl=>by
 obtain ⟨e,he,rfl⟩ :=jip.1 hl
 obtain ⟨⟨l1,l2⟩,⟨l3,l4⟩,⟨l5,l6⟩,l7,l8⟩ :=jmz (hok e he)
 rw [jn5]
 exact⟨⟨by simp only;omega,by simp only;omega⟩,⟨by simp only;omega,by simp only;omega⟩,⟨by simp only;omega,by simp only;omega⟩,by simp only;omega,by simp only;omega⟩
theorem jlC (b1_ o1 b2_ o2:Nat) (A:Option Addr) (n c:Nat) (xs:jV) (B:Option Addr) (m d:Nat) (ys:jV) (w:World) (hcl:w.cell? ⟨b1_,o1,none⟩ =some (.slice A n c)) (hbl:b1_<w.heap.size) (hcl2:w.cell? ⟨b2_,o2,none⟩ =some (.slice B m d)) (hbl2:b2_<w.heap.size)
  (h:Pts w A n xs) (h2:Pts w B m ys) (hr:QA xs=true) (hr2:QA ys=true) :
  Calls Tryz.prog 144 #[.pointer (some ⟨b1_,o1,none⟩), .pointer (some ⟨b2_,o2,none⟩)] w fun e w'=>e= .returned (.bool (jlu xs ys))∧Over w w':=by
 have hok:=jmI hr
 have h4:=jlT hr
 have hok2:=jmI hr2
 have h42:=jlT hr2
 refine Jh (m:=56) (Tryz.func144) J J (lb J) ?_;refine S8 ?_;refine J4 jkS (v:=fun x:Option Addr×Nat=> .slice x.1 (J0 xs).length x.2) (r:=fun x=>jo4 120 (J0 xs).length ((J0 xs).map (Q2 true)) x) (H:=fun _=>True) J J J (lb J) (fun w1 hs=>jlD b1_ o1 A n c xs w1 (Qm hcl hbl w1 hs) (jiu hbl hs.fin.size) (h.over hs.fin) hr) ?_
 rintro⟨eA,ec⟩ -
 refine N6 ?_;refine J4 jkS (v:=fun x:Option Addr×Nat=> .slice x.1 (J0 ys).length x.2) (r:=fun x=>jo4 120 (J0 ys).length ((J0 ys).map (Q2 true)) x) (H:=fun _=>True) J J J (lb J) (fun w1 hs=>jlD b2_ o2 B m d ys w1 (Qm hcl2 hbl2 w1 hs) (jiu hbl2 hs.fin.size) (h2.over hs.fin) hr2) ?_
 rintro⟨fA,fc⟩ -
 refine N8 ?_;refine qz (X:=Nat) (fun k=>k≤(J0 ys).length∧∀j,j<k→jlw xs (lg (J0 ys) j) =false) (fun k=> (J0 ys).length- k) (fun k=> [(7, .int .i64 (k:Int))]) (kK [4,5,6]) 0 (⟨jii _,fun q hq=>absurd hq (Nat.not_lt_zero _)⟩) ⟨J,sz⟩ ?_
 intro k hk L hL1
 refine v9 ?_
 obtain ⟨hkn,hno⟩ :=hk
 refine S8 ?_;refine cZ (fun c1=> ?_) (fun c1=> ?_)
 ·have hlt:k< (J0 ys).length:=Om
  obtain ⟨q1,q2⟩ :=jpQ hlt
  obtain ⟨m1,m2⟩ :=jo8 hok2 hlt
  obtain ⟨⟨d1,d2⟩,⟨d3,d4⟩,⟨d5,d6⟩,d7,d8⟩ :=joY hok2 (lg ((J0 ys).map (Q2 true)) k) (jfR (by rw [jit];exact hlt))
  refine ky (fun w hs=>VJ (k:=1) J hs Om) ?_
  rintro⟨fg,rfl⟩
  refine S6 ?_;refine JS 31 ?_;refine dK 0 ?_;refine dK 1 ?_;refine dK 2 ?_;refine dK 3 ?_;refine dK 4 ?_;refine dZ 5 J (jn J J jt (jnA (b:=fg) (fun w1 hs=>JC (k:=1) (x:= (some ⟨fg,0,none⟩,fc)) (ls:= (J0 ys).map (Q2 true)) J (jit ..) w1 hs) hlt 0 Om J)) ?_;refine dK 6 ?_;refine dK 7 ?_;refine dK 8 ?_;refine dK 9 ?_;refine dK 10 ?_;refine dZ 11 J (jn J J jt (jnA (b:=fg) (fun w1 hs=>JC (k:=1) (x:= (some ⟨fg,0,none⟩,fc)) (ls:= (J0 ys).map (Q2 true)) J (jit ..) w1 hs) hlt 2 Om J)) ?_;refine dK 12 ?_;refine dZ 13 J ((jpi J J J Om Om Om).as (congrArg _ q1)) ?_;refine dK 14 ?_;refine dK 15 ?_;refine dK 16 ?_;refine dK 17 ?_;refine dK 18 ?_;refine dZ 19 J (jn J J jt (jnA (b:=fg) (fun w1 hs=>JC (k:=1) (x:= (some ⟨fg,0,none⟩,fc)) (ls:= (J0 ys).map (Q2 true)) J (jit ..) w1 hs) hlt 1 Om J)) ?_;refine dK 20 ?_;refine dK 21 ?_;refine dK 22 ?_;refine dK 23 ?_;refine dK 24 ?_;refine dZ 25 J (jn J J jt (jnA (b:=fg) (fun w1 hs=>JC (k:=1) (x:= (some ⟨fg,0,none⟩,fc)) (ls:= (J0 ys).map (Q2 true)) J (jit ..) w1 hs) hlt 3 Om J)) ?_;refine dK 26 ?_;refine dZ 27 J ((jpi J J J Om Om Om).as (congrArg _ q2)) ?_;refine dZ 28 J (JU J J (q8 J J)) ?_;refine qe (i:=29) J Dc Kr J ?_;refine aL (fun b1=> ?_);refine n9 ?_;refine JO (u9 J) ?_;refine qe (i:=30) J Dc Kr J ?_;refine S1 ?_;refine JO (u9 J) ?_;refine JK Kr ?_;refine S5 ?_;refine a9 (jT G6 J J (fun w1 hs=>jpr (J0 xs) _ _▸Nm eA _ ec ((J0 xs).map (Q2 true)) (jkL (lg (J0 ys) k)).1 (jkL (lg (J0 ys) k)).2 w1 (JC (k:=0) J (jit ..) w1 hs) Om (joY hok) m1 m2)) ?_;refine S2 ?_;refine cZ (fun c2=> ?_) (fun c2=> ?_)
  ·have hof:jlw xs (lg (J0 ys) k) =true:=by unfold jlw;rw [c2];rfl
   refine S4 ?_;refine a9 (jT xF J J (fun w1 hs=>jpq (J0 xs) _ _▸FZ eA _ ec ((J0 xs).map (Q2 true)) (jkL (lg (J0 ys) k)).1 (jkL (lg (J0 ys) k)).2 w1 (JC (k:=0) J (jit ..) w1 hs) Om (joY hok) m1 m2)) ?_;refine S9 ?_;refine jM J (.tmp J) ?_
   intro w' hs
   exact⟨QH (joo hlt hno hof),hs.fin⟩
  ·have hof:jlw xs (lg (J0 ys) k) =false:=by unfold jlw;rw [c2];rfl
   refine S8 ?_
   exact qi hL1 (k+1) (⟨by omega,fun q hq=>by by_cases e:q=k;exact e▸hof;exact hno q Om⟩) Om ⟨vi Om,sz⟩ (u9 rfl)
 ·refine S10 ?_;refine jM J (.tmp J) ?_
  intro w' hs
  exact⟨QH (jnd fun j hj=>hno j Om),hs.fin⟩
theorem jlj (A:Option Addr) (n c:Nat) (xs:jV) (B:Option Addr) (m d:Nat) (ys:jV) (w:World) (h:Pts w A n xs) (h2:Pts w B m ys) (hr:QA xs=true) (hr2:QA ys=true) :
  Calls Tryz.prog 145 #[Tf A n c,Tf B m d] w fun e w'=>e= .returned (.bool (jlu xs ys))∧Over w w':=by
 have hok:=jmI hr
 have h4:=jlT hr
 have hok2:=jmI hr2
 have h42:=jlT hr2
 have hn: (n:Int)≤1048577:=by have:= (uJ hr).2.1;have:=h.1;omega
 have hm: (m:Int)≤1048577:=by have:= (uJ hr2).2.1;have:=h2.1;omega
 refine Jh (m:=42) (Tryz.func145) J J (lb J) ?_;refine S3 ?_;refine aX (fun b1=> ?_);refine N1 ?_;refine aX (fun b2=> ?_);refine N6 ?_;refine J4 Ug (v:=fun x=> .slice x.1 (J0 xs).length x.2) (r:=fun x=>JY 0 131 4 (J0 xs).length ((J0 xs).flatMap jZ) x) (H:=fun _=>True) J J J (lb J) (fun w1 hs=>Qh (uW A n c xs w1 (h.over hs.fin) hn)) ?_
 rintro⟨eA,ec⟩ -
 refine N7 ?_;refine J4 Ug (v:=fun x=> .slice x.1 (J0 ys).length x.2) (r:=fun x=>JY 0 131 4 (J0 ys).length ((J0 ys).flatMap jZ) x) (H:=fun _=>True) J J J (lb J) (fun w1 hs=>Qh (uW B m d ys w1 (h2.over hs.fin) hm)) ?_
 rintro⟨fA,fc⟩ -
 refine N4 ?_;refine qz (X:=Nat) (fun k=>k≤(J0 ys).length∧∀j,j<k→jlw xs (lg (J0 ys) j) =false) (fun k=> (J0 ys).length- k) (fun k=> [(14, .int .i64 (k:Int))]) (kK [4,5,12,13]) 0 (⟨jii _,fun q hq=>absurd hq (Nat.not_lt_zero _)⟩) ⟨J,sz⟩ ?_
 intro k hk L hL1
 refine v9 ?_
 obtain ⟨hkn,hno⟩ :=hk
 refine S5 ?_;refine cZ (fun c1=> ?_) (fun c1=> ?_)
 ·have hlt:k< (J0 ys).length:=Om
  obtain ⟨m1,m2⟩ :=jo8 hok2 hlt
  obtain ⟨⟨l1,l2⟩,⟨l3,l4⟩,⟨l5,l6⟩,l7,l8⟩ :=jmz (QS hok2 hlt)
  refine ky (fun w hs=>VJ (k:=3) J hs Om) ?_
  rintro⟨fg,rfl⟩
  refine S7 ?_;refine a9 (jk J J qG J (ya (fun w1 hs=>JC (k:=3) (x:= (some ⟨fg,0,none⟩,fc)) J J w1 hs) hlt)) ?_;refine S1 ?_;refine aL (fun b3=> ?_);refine N19 ?_;refine a9 (JU J J (q8 J J)) ?_;refine S1 ?_;refine aL (fun b4=> ?_);refine N7 ?_;refine a9 (jT jmr J J (fun w1 hs=>jnQ eA _ ec (J0 xs) (jkL (lg (J0 ys) k)).1 (jkL (lg (J0 ys) k)).2 true w1 (JC (k:=2) J J w1 hs) Om hok m1 m2)) ?_;refine S2 ?_;refine cZ (fun c2=> ?_) (fun c2=> ?_)
  ·have hof:jlw xs (lg (J0 ys) k) =true:=by unfold jlw;rw [c2];rfl
   refine S4 ?_;refine a9 (jT XM J J (fun w1 hs=>B8 eA _ ec (J0 xs) (jkL (lg (J0 ys) k)).1 (jkL (lg (J0 ys) k)).2 true w1 (JC (k:=2) J J w1 hs) Om hok m1 m2)) ?_;refine S9 ?_;refine jM J (.tmp J) ?_
   intro w' hs
   exact⟨QH (joo hlt hno hof),hs.fin⟩
  ·have hof:jlw xs (lg (J0 ys) k) =false:=by unfold jlw;rw [c2];rfl
   refine S7 ?_
   exact qi hL1 (k+1) (⟨by omega,fun q hq=>by by_cases e:q=k;exact e▸hof;exact hno q Om⟩) Om ⟨vi Om,sz⟩ (u9 rfl)
 ·refine S10 ?_;refine jM J (.tmp J) ?_
  intro w' hs
  exact⟨QH (jnd fun j hj=>hno j Om),hs.fin⟩
end Go.Proofs.YtpncbbcmoiiipaaGreat
