import Derived.Test.YtbahojdbmmjkcaaGreatPReg3
import Derived.Test.YtbahojdbmmjkcaaGreatPNetT
import Derived.Test.YtbahojdbmmjkcaaGreatPCmbS
set_option linter.unusedVariables false
set_option linter.unusedSimpArgs false
namespace Go.Proofs.YtbahojdbmmjkcaaGreat
open Go Go.RowKit
variable {E ls:List Leg} {k:Nat} {xs:jK}
set_option maxRecDepth 100000
set_option maxHeartbeats 4000000
def ZC (ls:List Leg) (k:Nat) :List Leg:= (ls.take k).map (Qe true) ++ls.drop k
theorem IU (h:k≤ls.length) : (ZC ls k).length=ls.length:=by simp [ZC];omega
theorem IT (h:k<ls.length) : (ZC ls k)[k]? =some (lg ls k) :=by
 unfold ZC
 rw [List.getElem?_append_right (by simp;omega)]
 have: ((ls.take k).map (Qe true)).length=k:=by simp;omega
 rw [this,Nat.sub_self,List.getElem?_drop,jhV,Fb h]
theorem jcU (h:k<ls.length) :lg (ZC ls k) k=lg ls k:=by
 have h1:=Fb (l:=ZC ls k) (j:=k) (by rw [IU Om];exact h)
 rw [IT h] at h1
 injection h1 with h1
 exact h1.symm
theorem E9 (h:k<ls.length) : (ZC ls k).set k (Qe true (lg ls k)) =ZC ls (k+1) :=by
 have hl: ((ls.take k).map (Qe true)).length=k:=by simp;omega
 have e1:ls.drop k=lg ls k::ls.drop (k+1) :=by rw [jg3 h,VG h]
 unfold ZC
 rw [jhF _ _ Om,hl,Nat.sub_self,e1,jh4,jgE h,jgS,VG h,jgB]
 rfl
theorem E8 (ls:List Leg) :ZC ls ls.length=ls.map (Qe true) :=by simp [ZC]
section
variable {w0:Bs} {Rs:List Res}
theorem FD {b m j:Nat} (h:∀w,St w0 Rs w→Legs w (some ⟨b,0,none⟩) m ls) (hj:j<m) (q:Nat) {off:Nat} {v:Value} (he:off=0+j*4+q) (hv: [Value.int .i64 (lg ls j).ax,Value.int .i64 (lg ls j).ay,Value.int .i64 (lg ls j).bx,Value.int .i64 (lg ls j).b_y][q]? =some v) :∀w',St w0 Rs w'→w'.cell? ⟨b,off,none⟩ =some v:=fun w' hs=>he▸uV h hj w' hs q v hv
end
theorem H0 {l:Leg} (h:qr l) : (-262144≤l.ax∧l.ax≤262144)∧(-262144≤l.ay∧l.ay≤262144)∧(-262144≤l.bx∧l.bx≤262144)∧(-262144≤l.b_y∧l.b_y≤262144) :=h
theorem ZD (h:qG xs=true) :∀l∈Jy xs,qr l:=yF (KM h).2.2 _ (jgx _)
theorem yC (h:qG xs=true) : (Jy xs).length≤400:=jhi (LO xs) (KM h).2.1
abbrev jaH (T n:Nat) (ls:List Leg) (x:Option Addr×Nat) :Res:=JQ 0 T 4 n (ls.flatMap jU) x
theorem Zh (bb oo:Nat) (A:Option Addr) (n c:Nat) (xs:jK) (w:World) (hcell:w.cell? ⟨bb,oo,none⟩ =some (.slice A n c)) (hbb:bb<w.heap.size) (h:Pts w A n xs) (hr:qG xs=true) :
  Calls Tryz.prog 194 #[.pointer (some ⟨bb,oo,none⟩)] w fun e w'=>∃x:Option Addr×Nat,e= .returned (.slice x.1 (Jy xs).length x.2)∧Over w w'∧(jaH 147 (Jy xs).length ((Jy xs).map (Qe true)) x).P w'∧(∀b,(jaH 147 (Jy xs).length ((Jy xs).map (Qe true)) x).F b→w.heap.size≤b)∧(jaH 147 (Jy xs).length ((Jy xs).map (Qe true)) x).B=0∧True:=by
 have hok:=ZD hr
 have h4:=yC hr
 have hn: (n:Int)≤1048577:=by have:= (KM hr).2.1;have:=h.1;omega
 refine jT (m:=30) (Tryz.func194) J J (lb J) ?_;refine S8 ?_;refine JR WD (v:=fun x=> .slice x.1 (Jy xs).length x.2) (r:=fun x=>JQ 0 147 4 (Jy xs).length ((Jy xs).flatMap jU) x) (H:=fun _=>True) J J J (lb J) (fun w1 hs=>qJ ((un bb oo A n c xs w1 (qP hcell hbb w1 hs) (jgA hbb hs.fin.size) (h.over hs.fin) hn).mono fun e w' ⟨v,h1,_,h2,h3⟩ =>⟨v,h1,h2,h3⟩)) ?_
 rintro⟨eA,ec⟩ -
 refine N2 ?_
 obtain ⟨E,hE⟩ :∃E,E=Jy xs:=⟨_,rfl⟩
 rw [←hE] at hok h4⊢
 refine S6 ?_;refine JN (X:=Nat) (fun k=>k≤E.length) (fun k=>E.length- k) (fun k=> [(4, .int .i64 (k:Int))]) (kK [2,3]) (fun k=> [JQ 0 147 4 E.length ((ZC E k).flatMap jU) (eA,ec)]) 0 (jgw _) ⟨J,sz⟩ (fun _ h=>h.upto ⟨by simp [ZC],trivial⟩) ?_
 intro k hk L hL1
 refine v9 ?_;refine r9 ?_;refine S8 ?_;refine cZ (fun c1=> ?_) (fun c1=> ?_)
 ·have hlt:k<E.length:=Om
  have hdl:=IU (ls:=E) (k:=k) Om
  have hat:=jcU hlt
  have hlg:=QK hok hlt
  obtain ⟨⟨l1,l2⟩,⟨l3,l4⟩,⟨l5,l6⟩,l7,l8⟩ :=H0 hlg
  refine Q1 (fun w hs=>KX (k:=0) J hs Om) ?_
  rintro⟨eg,rfl⟩
  refine S5 ?_;refine JS 16 ?_;refine dK 0 ?_;refine dK 1 ?_;refine dK 2 ?_;refine dK 3 ?_;refine dK 4 ?_;refine dK 5 ?_;refine dZ 6 J (jk J J jj J (hat▸qZ (b:=eg) (o:=0) (fun w1 hs=>QO (k:=0) (x:= (some ⟨eg,0,none⟩,ec)) (ls:=ZC E k) J hdl w1 hs) hlt)) ?_;refine dZ 7 J (jJ Vw J J (fun w1 hs=>Lp (lA (lg E k)) w1 (VR hlg))) ?_;refine dK 8 ?_;refine dK 9 ?_;refine dK 10 ?_;refine dK 11 ?_;refine dZ 12 J (jk J J jj J (hat▸qO (b:=eg) (o:=0) (fun w1 hs=>QO (k:=0) (x:= (some ⟨eg,0,none⟩,ec)) (ls:=ZC E k) J hdl w1 hs) hlt)) ?_;refine dZ 13 J (jJ Vw J J (fun w1 hs=>Lp (lB (lg E k)) w1 (wM hlg))) ?_;refine dZ 14 J (J0 J J (vS J J)) ?_;refine dK 15 ?_;refine KB J Kr J ?_;refine WE (k:=0) (vs:=jU (Qe true (lg E k))) J J J J (by rfl) (by rfl) QA.szx J J (Nat.succ_pos 3) (by rw [VO jU 4 (fun _=>rfl),hdl];show 0+k*4+4≤E.length*4;omega) ?_;refine n9 ?_
  rw [WW (m:=4) (off:=0+k*4) jU (fun _=>rfl) (IT hlt) [] (jU (lg E k)) (jU (Qe true (lg E k))) [] rfl rfl rfl (by simp),E9 hlt]
  refine UD Kr ?_;refine S7 ?_
  exact j4 hL1 (k+1) ((show k+1≤E.length by omega)) Om ⟨vi Om,sz⟩ (u9 J)
 ·have hke:k=E.length:=Om
  subst hke
  rw [E8]
  refine S11 ?_;refine jL J (.tmp J) ?_
  intro w' hs
  exact⟨(eA,ec),rfl,hs.fin,(hs.all 0 _ rfl).1,fun b hb=> ((hs.all 0 _ rfl).2.1 b hb).elim id (fun h=>by cases h),sz⟩
theorem je8 (h:k<E.length) : ((lg (E.map (Qe true)) k).ax+ (lg (E.map (Qe true)) k).bx).tdiv 2= (Uc (lg E k)).1∧((lg (E.map (Qe true)) k).ay+ (lg (E.map (Qe true)) k).b_y).tdiv 2= (Uc (lg E k)).2:=by
 rw [jaL _ h,SG]
 have key:∀a b:Int,(2*a+2*b).tdiv 2=a+b:=fun a b=>by
  rw [←Int.mul_add,Int.mul_tdiv_cancel_left _ Dc]
 exact⟨key _ _,key _ _⟩
theorem ja0 (hok:∀l∈E,qr l) (h:k<E.length) :wA (Uc (lg E k)).1∧wA (Uc (lg E k)).2:=by
 obtain ⟨⟨l1,l2⟩,⟨l3,l4⟩,⟨l5,l6⟩,l7,l8⟩ :=H0 (QK hok h)
 exact⟨⟨by simp only [Uc];omega,by simp only [Uc];omega⟩,by simp only [Uc];omega,by simp only [Uc];omega⟩
theorem jaa (hok:∀l∈E,qr l) :∀l∈E.map (Qe true),jeY l:=fun l hl=>by
 obtain ⟨e,he,rfl⟩ :=jgO.1 hl
 obtain ⟨⟨l1,l2⟩,⟨l3,l4⟩,⟨l5,l6⟩,l7,l8⟩ :=H0 (hok e he)
 rw [SG]
 exact⟨⟨by simp only;omega,by simp only;omega⟩,⟨by simp only;omega,by simp only;omega⟩,⟨by simp only;omega,by simp only;omega⟩,by simp only;omega,by simp only;omega⟩
theorem Zg (b1_ o1 b2_ o2:Nat) (A:Option Addr) (n c:Nat) (xs:jK) (B:Option Addr) (m d:Nat) (ys:jK) (w:World) (hcl:w.cell? ⟨b1_,o1,none⟩ =some (.slice A n c)) (hbl:b1_<w.heap.size) (hcl2:w.cell? ⟨b2_,o2,none⟩ =some (.slice B m d)) (hbl2:b2_<w.heap.size) (h:Pts w A n xs) (h2:Pts w B m ys) (hr:qG xs=true) (hr2:qG ys=true) :
  Calls Tryz.prog 131 #[.pointer (some ⟨b1_,o1,none⟩), .pointer (some ⟨b2_,o2,none⟩)] w fun e w'=>e= .returned (.bool (zP xs ys))∧Over w w':=by
 have hok:=ZD hr
 have h4:=yC hr
 have hok2:=ZD hr2
 have h42:=yC hr2
 refine jT (m:=56) (Tryz.func131) J J (lb J) ?_;refine S8 ?_;refine JR Us (v:=fun x:Option Addr×Nat=> .slice x.1 (Jy xs).length x.2) (r:=fun x=>jaH 147 (Jy xs).length ((Jy xs).map (Qe true)) x) (H:=fun _=>True) J J J (lb J) (fun w1 hs=>Zh b1_ o1 A n c xs w1 (qP hcl hbl w1 hs) (jgA hbl hs.fin.size) (h.over hs.fin) hr) ?_
 rintro⟨eA,ec⟩ -
 refine N6 ?_;refine JR Us (v:=fun x:Option Addr×Nat=> .slice x.1 (Jy ys).length x.2) (r:=fun x=>jaH 147 (Jy ys).length ((Jy ys).map (Qe true)) x) (H:=fun _=>True) J J J (lb J) (fun w1 hs=>Zh b2_ o2 B m d ys w1 (qP hcl2 hbl2 w1 hs) (jgA hbl2 hs.fin.size) (h2.over hs.fin) hr2) ?_
 rintro⟨fA,fc⟩ -
 refine N8 ?_;refine J9 (X:=Nat) (fun k=>k≤(Jy ys).length∧∀j,j<k→zV xs (lg (Jy ys) j) =false) (fun k=> (Jy ys).length- k) (fun k=> [(7, .int .i64 (k:Int))]) (kK [4,5,6]) 0 (⟨jgw _,fun q hq=>absurd hq (Nat.not_lt_zero _)⟩) ⟨J,sz⟩ ?_
 intro k hk L hL1
 refine v9 ?_
 obtain ⟨hkn,hno⟩ :=hk
 refine S8 ?_;refine cZ (fun c1=> ?_) (fun c1=> ?_)
 ·have hlt:k< (Jy ys).length:=Om
  obtain ⟨q1,q2⟩ :=je8 hlt
  obtain ⟨m1,m2⟩ :=ja0 hok2 hlt
  obtain ⟨⟨d1,d2⟩,⟨d3,d4⟩,⟨d5,d6⟩,d7,d8⟩ :=jaa hok2 (lg ((Jy ys).map (Qe true)) k) (jaK (by rw [jgF];exact hlt))
  refine Q1 (fun w hs=>KX (k:=1) J hs Om) ?_
  rintro⟨fg,rfl⟩
  refine S6 ?_;refine JS 31 ?_;refine dK 0 ?_;refine dK 1 ?_;refine dK 2 ?_;refine dK 3 ?_;refine dK 4 ?_;refine dZ 5 J (jl J J jt (FD (b:=fg) (fun w1 hs=>QO (k:=1) (x:= (some ⟨fg,0,none⟩,fc)) (ls:= (Jy ys).map (Qe true)) J (jgF ..) w1 hs) hlt 0 Om J)) ?_;refine dK 6 ?_;refine dK 7 ?_;refine dK 8 ?_;refine dK 9 ?_;refine dK 10 ?_;refine dZ 11 J (jl J J jt (FD (b:=fg) (fun w1 hs=>QO (k:=1) (x:= (some ⟨fg,0,none⟩,fc)) (ls:= (Jy ys).map (Qe true)) J (jgF ..) w1 hs) hlt 2 Om J)) ?_;refine dK 12 ?_;refine dZ 13 J ((jbJ J J J Om Om Om).as (congrArg _ q1)) ?_;refine dK 14 ?_;refine dK 15 ?_;refine dK 16 ?_;refine dK 17 ?_;refine dK 18 ?_;refine dZ 19 J (jl J J jt (FD (b:=fg) (fun w1 hs=>QO (k:=1) (x:= (some ⟨fg,0,none⟩,fc)) (ls:= (Jy ys).map (Qe true)) J (jgF ..) w1 hs) hlt 1 Om J)) ?_;refine dK 20 ?_;refine dK 21 ?_;refine dK 22 ?_;refine dK 23 ?_;refine dK 24 ?_;refine dZ 25 J (jl J J jt (FD (b:=fg) (fun w1 hs=>QO (k:=1) (x:= (some ⟨fg,0,none⟩,fc)) (ls:= (Jy ys).map (Qe true)) J (jgF ..) w1 hs) hlt 3 Om J)) ?_;refine dK 26 ?_;refine dZ 27 J ((jbJ J J J Om Om Om).as (congrArg _ q2)) ?_;refine dZ 28 J (J0 J J (QN J J)) ?_;refine J8 (i:=29) J Dc Kr J ?_;refine aL (fun b1=> ?_);refine n9 ?_;refine JU (u9 J) ?_;refine J8 (i:=30) J Dc Kr J ?_;refine S1 ?_;refine JU (u9 J) ?_;refine JI Kr ?_;refine S5 ?_;refine a9 (jJ X6 J J (fun w1 hs=>jcw (Jy xs) _ _▸Ta eA _ ec ((Jy xs).map (Qe true)) (Uc (lg (Jy ys) k)).1 (Uc (lg (Jy ys) k)).2 w1 (QO (k:=0) J (jgF ..) w1 hs) Om (jaa hok) m1 m2)) ?_;refine S2 ?_;refine cZ (fun c2=> ?_) (fun c2=> ?_)
  ·have hof:zV xs (lg (Jy ys) k) =true:=by unfold zV;rw [c2];rfl
   refine S4 ?_;refine a9 (jJ ZR J J (fun w1 hs=>jct (Jy xs) _ _▸D4 eA _ ec ((Jy xs).map (Qe true)) (Uc (lg (Jy ys) k)).1 (Uc (lg (Jy ys) k)).2 w1 (QO (k:=0) J (jgF ..) w1 hs) Om (jaa hok) m1 m2)) ?_;refine S9 ?_;refine jL J (.tmp J) ?_
   intro w' hs
   exact⟨Qs (T0 hlt hno hof),hs.fin⟩
  ·have hof:zV xs (lg (Jy ys) k) =false:=by unfold zV;rw [c2];rfl
   refine S8 ?_
   exact JY hL1 (k+1) (⟨by omega,fun q hq=>by by_cases e:q=k;exact e▸hof;exact hno q Om⟩) Om ⟨vi Om,sz⟩ (u9 rfl)
 ·refine S10 ?_;refine jL J (.tmp J) ?_
  intro w' hs
  exact⟨Qs (O6 fun j hj=>hno j Om),hs.fin⟩
theorem ze (A:Option Addr) (n c:Nat) (xs:jK) (B:Option Addr) (m d:Nat) (ys:jK) (w:World) (h:Pts w A n xs) (h2:Pts w B m ys) (hr:qG xs=true) (hr2:qG ys=true) :
  Calls Tryz.prog 149 #[Uv A n c,Uv B m d] w fun e w'=>e= .returned (.bool (zP xs ys))∧Over w w':=by
 have hok:=ZD hr
 have h4:=yC hr
 have hok2:=ZD hr2
 have h42:=yC hr2
 have hn: (n:Int)≤1048577:=by have:= (KM hr).2.1;have:=h.1;omega
 have hm: (m:Int)≤1048577:=by have:= (KM hr2).2.1;have:=h2.1;omega
 refine jT (m:=42) (Tryz.func149) J J (lb J) ?_;refine S3 ?_;refine aX (fun b1=> ?_);refine N1 ?_;refine aX (fun b2=> ?_);refine N6 ?_;refine JR ka (v:=fun x=> .slice x.1 (Jy xs).length x.2) (r:=fun x=>JQ 0 96 4 (Jy xs).length ((Jy xs).flatMap jU) x) (H:=fun _=>True) J J J (lb J) (fun w1 hs=>qJ (kb A n c xs w1 (h.over hs.fin) hn)) ?_
 rintro⟨eA,ec⟩ -
 refine N7 ?_;refine JR ka (v:=fun x=> .slice x.1 (Jy ys).length x.2) (r:=fun x=>JQ 0 96 4 (Jy ys).length ((Jy ys).flatMap jU) x) (H:=fun _=>True) J J J (lb J) (fun w1 hs=>qJ (kb B m d ys w1 (h2.over hs.fin) hm)) ?_
 rintro⟨fA,fc⟩ -
 refine N4 ?_;refine J9 (X:=Nat) (fun k=>k≤(Jy ys).length∧∀j,j<k→zV xs (lg (Jy ys) j) =false) (fun k=> (Jy ys).length- k) (fun k=> [(14, .int .i64 (k:Int))]) (kK [4,5,12,13]) 0 (⟨jgw _,fun q hq=>absurd hq (Nat.not_lt_zero _)⟩) ⟨J,sz⟩ ?_
 intro k hk L hL1
 refine v9 ?_
 obtain ⟨hkn,hno⟩ :=hk
 refine S5 ?_;refine cZ (fun c1=> ?_) (fun c1=> ?_)
 ·have hlt:k< (Jy ys).length:=Om
  obtain ⟨m1,m2⟩ :=ja0 hok2 hlt
  obtain ⟨⟨l1,l2⟩,⟨l3,l4⟩,⟨l5,l6⟩,l7,l8⟩ :=H0 (QK hok2 hlt)
  refine Q1 (fun w hs=>KX (k:=3) J hs Om) ?_
  rintro⟨fg,rfl⟩
  refine S7 ?_;refine a9 (jk J J qm J (uV (fun w1 hs=>QO (k:=3) (x:= (some ⟨fg,0,none⟩,fc)) J J w1 hs) hlt)) ?_;refine S1 ?_;refine aL (fun b3=> ?_);refine N19 ?_;refine a9 (J0 J J (QN J J)) ?_;refine S1 ?_;refine aL (fun b4=> ?_);refine N7 ?_;refine a9 (jJ HC J J (fun w1 hs=>RH eA _ ec (Jy xs) (Uc (lg (Jy ys) k)).1 (Uc (lg (Jy ys) k)).2 true w1 (QO (k:=2) J J w1 hs) Om hok m1 m2)) ?_;refine S2 ?_;refine cZ (fun c2=> ?_) (fun c2=> ?_)
  ·have hof:zV xs (lg (Jy ys) k) =true:=by unfold zV;rw [c2];rfl
   refine S4 ?_;refine a9 (jJ Ul J J (fun w1 hs=>Zp eA _ ec (Jy xs) (Uc (lg (Jy ys) k)).1 (Uc (lg (Jy ys) k)).2 true w1 (QO (k:=2) J J w1 hs) Om hok m1 m2)) ?_;refine S9 ?_;refine jL J (.tmp J) ?_
   intro w' hs
   exact⟨Qs (T0 hlt hno hof),hs.fin⟩
  ·have hof:zV xs (lg (Jy ys) k) =false:=by unfold zV;rw [c2];rfl
   refine S7 ?_
   exact JY hL1 (k+1) (⟨by omega,fun q hq=>by by_cases e:q=k;exact e▸hof;exact hno q Om⟩) Om ⟨vi Om,sz⟩ (u9 rfl)
 ·refine S10 ?_;refine jL J (.tmp J) ?_
  intro w' hs
  exact⟨Qs (O6 fun j hj=>hno j Om),hs.fin⟩
end Go.Proofs.YtbahojdbmmjkcaaGreat
