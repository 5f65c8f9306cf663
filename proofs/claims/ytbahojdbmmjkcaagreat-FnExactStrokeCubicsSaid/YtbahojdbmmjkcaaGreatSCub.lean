import Derived.Test.YtbahojdbmmjkcaaGreatSFlat
set_option linter.unusedVariables false
set_option linter.unusedSimpArgs false
namespace Go.Proofs.YtbahojdbmmjkcaaGreat
open Go Go.RowKit
variable {off:Nat} {t:Int} {v:Value} {w':World} {x:Option Addr×Nat}
set_option maxRecDepth 100000
set_option maxHeartbeats 4000000
structure Cub where
 a:Pn
 b:Pn
 c:Pn
 d:Pn
abbrev MF (q:Cub) :Value:= .agg #[.int .i64 q.a.1, .int .i64 q.a.2, .int .i64 q.b.1, .int .i64 q.b.2, .int .i64 q.c.1, .int .i64 q.c.2, .int .i64 q.d.1, .int .i64 q.d.2]
abbrev yb (q:Cub) :List Pn:= [q.a,q.b,q.c,q.d]
def ya (q:Cub) :Bool:=QJ (yb q)
structure CubOk (q:Cub) :Prop where
 a:bd2 q.a
 b:bd2 q.b
 c:bd2 q.c
 d:bd2 q.d
def jeO (a b c d k n:Int) :Int:=yz ((n- k) * (n- k) * (n- k) *a+3* (n- k) * (n- k) *k*b+3* (n- k) *k*k*c+k*k*k*d) (n*n*n)
def atQ (q:Cub) (k n:Int) :Pn:= (jeO q.a.1 q.b.1 q.c.1 q.d.1 k n,jeO q.a.2 q.b.2 q.c.2 q.d.2 k n)
def xS (q:Cub) :Int:=max (Pv (XR q.a q.b q.c)) (Pv (XR q.b q.c q.d))
def zl (q:Cub) (t:Int) :Int:=if ya q=true then(if(1≤t∧t≤262144) then lvC (3*xS q) t else 2) else 1
def flV (q:Cub) (t:Int) :Int:=if ya q=true then(if(1≤t∧t≤262144) then lvV (3*xS q) t else 0) else 0
def flN (q:Cub) (t:Int) :Nat:=2^ (flV q t).toNat
def MP (q:Cub) (m k:Nat) :List Pn:= (List.range k).map fun j:Nat=>atQ q (j:Int) (m:Int)
def MO (q:Cub) (t:Int) :List Pn:=if zl q t=0 then MP q (flN q t) (flN q t+1) else []
theorem DR (q:Cub) (m k:Nat) :MP q m (k+1) =MP q m k++ [atQ q (k:Int) (m:Int)] :=by simp [MP,List.range_succ]
theorem Ss (q:Cub) (m k:Nat) : (MP q m k).length=k:=by simp [MP]
theorem ND {q:Cub} (h:ya q=false) :flV q t=0∧zl q t=1:=by simp [flV,zl,h]
theorem NE {q:Cub} (h:ya q=true) (h2:¬(1≤t∧t≤262144)) :flV q t=0∧zl q t=2:=by simp [flV,zl,h,h2]
theorem jbY {q:Cub} (h:ya q=true) (h2:1≤t∧t≤262144) :flV q t=lvV (3*xS q) t∧zl q t=lvC (3*xS q) t:=by simp [flV,zl,h,h2]
theorem Ns {q:Cub} (h:ya q=true) :CubOk q:=by
 simp only [ya,QJ,List.all_cons,List.all_nil,Bool.and_true,jig] at h
 exact⟨Wi h.1,Wi h.2.1,Wi h.2.2.1,Wi h.2.2.2⟩
theorem YR (q:Cub) (w:World) :Calls Tryz.prog 86 #[MF q] w fun e w'=>e= .returned (.bool (ya q))∧Over w w':=by
 refine jK (m:=13) (Tryz.func86) J J (lb J) ?_;refine S3 ?_;refine aX (fun b1=> ?_);refine N13 ?_;refine jX J J (K6 J J J J) J (lb J) (fun b2=> ?_);refine n9 ?_;refine a9 (jG VF J J (fun w1 hs=>WD _ 4 4 (yb q) w1 (zS (yb q) (k:=1) J J w1 hs) Dc)) ?_;refine S3 ?_;refine jJ J (.tmp J) ?_
 intro w' hs
 exact⟨rfl,hs.fin⟩
theorem OQ (q:Cub) (w:World) :Calls Tryz.prog 210 #[MF q] w fun e w'=>∃g:Nat,e= .returned (.slice (some ⟨g,0,none⟩) 4 4)∧Over w w'∧(Res.cel g 28 ((yb q).flatMap jV)).P w'∧(∀b,(Res.cel g 28 ((yb q).flatMap jV)).F b→w.heap.size≤b)∧(Res.cel g 28 ((yb q).flatMap jV)).B=0∧True:=by
 refine jK (m:=12) (Tryz.func210) J J (lb J) ?_;refine S3 ?_;refine aX (fun b1=> ?_);refine N13 ?_;refine jX J J (K6 J J J J) J (lb J) (fun b2=> ?_);refine N3 ?_;refine jJ J (.tmp J) ?_
 intro w' hs
 exact⟨b2,rfl,hs.fin,(hs.all 1 _ rfl).1,fun b hb=> ((hs.all 1 _ rfl).2.1 b hb).elim id (fun h=>by cases h),sz⟩
theorem F2 {q:Cub} (h:CubOk q) :∀p∈yb q,bd2 p:=fun p hp=>by
 simp only [jis,ji3,or_false] at hp
 rcases hp with rfl | rfl | rfl | rfl
 ·exact h.a
 ·exact h.b
 ·exact h.c
 ·exact h.d
theorem jf7 (q:Cub) (k n:Int) : (yz (uH (yb q) [(n- k) * (n- k) * (n- k),3* (n- k) * (n- k) *k,3* (n- k) *k*k,k*k*k] 4).1 (n*n*n),yz (uH (yb q) [(n- k) * (n- k) * (n- k),3* (n- k) * (n- k) *k,3* (n- k) *k*k,k*k*k] 4).2 (n*n*n)) =atQ q k n:=by
 have key:∀a b c d w x y z:Int,0+a*w+b*x+c*y+d*z=w*a+x*b+y*c+z*d:=fun a b c d w x y z=>by grind
 refine Prod.ext ?_ ?_
 ·show yz (0+q.a.1* ((n- k) * (n- k) * (n- k)) +q.b.1* (3* (n- k) * (n- k) *k) +q.c.1* (3* (n- k) *k*k) +q.d.1* (k*k*k)) (n*n*n) =_
  rw [key]
  rfl
 ·show yz (0+q.a.2* ((n- k) * (n- k) * (n- k)) +q.b.2* (3* (n- k) * (n- k) *k) +q.c.2* (3* (n- k) *k*k) +q.d.2* (k*k*k)) (n*n*n) =_
  rw [key]
  rfl
theorem Sc (q:Cub) (k n:Int) (w:World) (h:CubOk q) (hk:0≤k) (hkn:k≤n) (h1:1≤n) (hn:n≤64) :
  Calls Tryz.prog 145 #[MF q, .int .i64 k, .int .i64 n] w fun e w'=>e= .returned (pV (atQ q k n))∧Over w w':=by
 obtain ⟨⟨a1,a2⟩,⟨a3,a4⟩,⟨a5,a6⟩,a7,a8⟩ :=jf2 hk hkn hn
 have e0:=jf7 q k n
 obtain ⟨u,hu⟩ :∃u,u=n- k:=⟨_,rfl⟩
 rw [←hu] at a1 a2 a5 a6 e0
 obtain ⟨b1,b2⟩ :=U0 a1 a2 (show 0≤u by omega) Om
 obtain ⟨b3,b4⟩ :=U0 a1 a2 hk Om
 obtain ⟨b5,b6⟩ :=U0 a5 a6 hk Om
 obtain ⟨b7,b8⟩ :=U0 a3 a4 hk Om
 obtain ⟨b9,b10⟩ :=U0 a7 a8 (show 0≤n by omega) hn
 have c1:3*u*u=3* (u*u) :=by grind
 have c2:3*u*u*k=3* (u*u*k) :=by grind
 have c3:3*u*k=3* (u*k) :=by grind
 have c4:3*u*k*k=3* (u*k*k) :=by grind
 have d0:1≤n*n*n:=by
  have x1:=jjW h1 h1 Dc Om
  have x2:=jjW x1 h1 Dc Om
  omega
 have hws:∀v∈ [u*u*u,3*u*u*k,3*u*k*k,k*k*k],-1048576≤v∧v≤1048576:=fun v hv=>by
  simp only [jis,ji3,or_false] at hv
  rcases hv with rfl | rfl | rfl | rfl<;>constructor<;>omega
 obtain ⟨⟨f1,f2⟩,f3,f4⟩ :=Nm (F2 h) hws (jif _) 4 (jif _)
 refine jK (m:=43) (Tryz.func145) J J (lb J) ?_;refine S3 ?_;refine aX (fun b1=> ?_);refine N1 ?_;refine aL (fun b2=> ?_);refine N6 ?_
 rw [←hu]
 refine S6 ?_;refine JQ uk (X:=Nat) (v:=fun g=> .slice (some ⟨g,0,none⟩) 4 4) (r:=fun g=>Res.cel g 28 ((yb q).flatMap jV)) (H:=fun _=>True) J J J (lb J) (fun w1 hs=>OQ q w1) ?_
 rintro g-
 refine N23 ?_;refine jX J J (vE J J J J) J (lb J) (fun b3=> ?_);refine n9 ?_;refine a9 (jG ur J J (fun w1 hs=>zb _ 4 4 (yb q) _ 4 4 [u*u*u,3*u*u*k,3*u*k*k,k*k*k] w1 (zS (yb q) (k:=2) J J w1 hs) (IP [u*u*u,3*u*u*k,3*u*k*k,k*k*k] (k:=3) J J w1 hs) Dc Dc (F2 h) hws)) ?_;refine S5 ?_;refine a9 (jG Dg J J (fun w1 hs=>e0▸E0 (uH (yb q) [u*u*u,3*u*u*k,3*u*k*k,k*k*k] 4) (n*n*n) w1 d0 b10 ⟨by omega,by omega⟩ ⟨by omega,by omega⟩)) ?_;refine S4 ?_;refine jJ J (JZ (k:=1) J jj J J) ?_
 intro w' hs
 exact⟨rfl,hs.fin⟩
theorem jbu {q:Cub} (h:CubOk q) :0≤xS q∧xS q≤2097152:=by
 have h1:=jdz (Ha h.a h.b h.c)
 have h2:=jdz (Ha h.b h.c h.d)
 unfold xS
 omega
theorem jh2 (q:Cub) :uH (yb q) [1,-2,1,0] 4=XR q.a q.b q.c:=by
 refine Prod.ext ?_ ?_
 ·show 0+q.a.1*1+q.b.1* (-2) +q.c.1*1+q.d.1*0=q.a.1- 2*q.b.1+q.c.1
  omega
 ·show 0+q.a.2*1+q.b.2* (-2) +q.c.2*1+q.d.2*0=q.a.2- 2*q.b.2+q.c.2
  omega
theorem jh3 (q:Cub) :uH (yb q) [0,1,-2,1] 4=XR q.b q.c q.d:=by
 refine Prod.ext ?_ ?_
 ·show 0+q.a.1*0+q.b.1*1+q.c.1* (-2) +q.d.1*1=q.b.1- 2*q.c.1+q.d.1
  omega
 ·show 0+q.a.2*0+q.b.2*1+q.c.2* (-2) +q.d.2*1=q.b.2- 2*q.c.2+q.d.2
  omega
theorem Ng (q:Cub) (w:World) (h:CubOk q) :Calls Tryz.prog 207 #[MF q] w fun e w'=>e= .returned (.int .i64 (xS q))∧Over w w':=by
 refine jK (m:=15) (Tryz.func207) J J (lb J) ?_;refine S3 ?_;refine aX (fun b1=> ?_);refine N6 ?_;refine JQ uk (X:=Nat) (v:=fun g=> .slice (some ⟨g,0,none⟩) 4 4) (r:=fun g=>Res.cel g 28 ((yb q).flatMap jV)) (H:=fun _=>True) J J J (lb J) (fun w1 hs=>OQ q w1) ?_
 rintro g-
 refine N6 ?_;refine jX J J (vE J J J J) J (lb J) (fun b2=> ?_);refine n9 ?_;refine a9 (jG ur J J (fun w1 hs=>jh2 q▸zb _ 4 4 (yb q) _ 4 4 [1,-2,1,0] w1 (zS (yb q) (k:=1) J J w1 hs) (IP [1,-2,1,0] (k:=2) J J w1 hs) Dc Dc (F2 h) Dc)) ?_;refine a9 (jG zE J J (fun w1 hs=>O7 (XR q.a q.b q.c) w1 (Ha h.a h.b h.c))) ?_;refine S2 ?_;refine jX J J (vE J J J J) J (lb J) (fun b3=> ?_);refine n9 ?_;refine a9 (jG ur J J (fun w1 hs=>jh3 q▸zb _ 4 4 (yb q) _ 4 4 [0,1,-2,1] w1 (zS (yb q) (k:=1) J J w1 hs) (IP [0,1,-2,1] (k:=3) J J w1 hs) Dc Dc (F2 h) Dc)) ?_;refine a9 (jG zE J J (fun w1 hs=>O7 (XR q.b q.c q.d) w1 (Ha h.b h.c h.d))) ?_;refine a9 (OW J J J) ?_;refine S3 ?_;refine jJ J (.tmp J) ?_
 intro w' hs
 exact⟨rfl,hs.fin⟩
theorem FP (q:Cub) (t:Int) (w:World) :Calls Tryz.prog 144 #[MF q, .int .i64 t] w fun e w'=>e= .returned (.tuple #[.int .i64 (flV q t), .int .i64 (zl q t)])∧Over w w':=by
 refine jK (m:=19) (Tryz.func144) J J (lb J) ?_;refine S3 ?_;refine aX (fun b1=> ?_);refine N7 ?_;refine a9 (jG Um J J (fun w1 hs=>YR q w1)) ?_;refine S2 ?_;refine cZ (fun c1=> ?_) (fun c1=> ?_)
 ·refine S7 ?_;refine JX J (.tmp J) (.tmp J) ?_
  intro w' hs
  obtain ⟨e1,e2⟩ :=ND (t:=t) c1
  exact⟨by rw [e1,e2],hs.fin⟩
 ·refine S6 ?_;refine a9 (jG ZG J J (fun w1 hs=>Ly t w1)) ?_;refine S2 ?_;refine cZ (fun c2=> ?_) (fun c2=> ?_)
  ·refine S7 ?_;refine JX J (.tmp J) (.tmp J) ?_
   intro w' hs
   obtain ⟨e1,e2⟩ :=NE (t:=t) c1 (by simpa using c2)
   exact⟨by rw [e1,e2],hs.fin⟩
  ·have ht:1≤t∧t≤262144:=by simpa using c2
   have hq:=Ns c1
   have hb:=jbu hq
   obtain ⟨e1,e2⟩ :=jbY c1 ht
   refine S5 ?_;refine a9 (jG Ol J J (fun w1 hs=>Ng q w1 hq)) ?_;refine S2 ?_;refine a9 (jG GL J J (fun w1 hs=>Iu (3*xS q) t w1 Om ht)) ?_;refine S6 ?_;refine JX J (.tmp J) (.tmp J) ?_
   intro w' hs
   exact⟨by rw [e1,e2],hs.fin⟩
theorem Ia {q:Cub} (h:zl q t=0) :CubOk q∧∃l:Nat,l≤6∧flV q t=l:=by
 have hb:ya q=true:=by
  cases hb:ya q with
  | true=>rfl
  | false=>rw [(ND (t:=t) hb).2] at h;cases h
 have ht:1≤t∧t≤262144:=Decidable.byContradiction fun k=>by rw [(NE hb k).2] at h;cases h
 obtain ⟨l,h1,h2⟩ :=jhv (3*xS q) t
 exact⟨Ns hb,l,h1,by rw [(jbY hb ht).1,h2]⟩
abbrev FlP (q:Cub) (t:Int) (e:Ending) (w w':World) :Prop:=∃x:Option Addr×Nat,e= .returned (.tuple #[.slice x.1 (MO q t).length x.2, .int .i64 (zl q t)])∧Over w w'∧(JS 0 28 2 (MO q t).length ((MO q t).flatMap jV) x).P w'∧(∀b,(JS 0 28 2 (MO q t).length ((MO q t).flatMap jV) x).F b→w.heap.size≤b)∧(JS 0 28 2 (MO q t).length ((MO q t).flatMap jV) x).B=0∧True
theorem Ch {q:Cub} {w:World} (h:¬zl q t=0) (ho:Over w w') :FlP q t (.returned (.tuple #[.slice none 0 0, .int .i64 (zl q t)])) w w':=by
 have e:MO q t= [] :=if_neg h
 refine⟨(none,0),by rw [e];rfl,ho,?_,?_,sz⟩
 ·rw [e];exact World.ownsRow_nil _ _ _ _
 ·rw [e];intro b hb;exact absurd (show Value.ownBlock (.slice none 0 0) =some b from hb) (by simp [Value.ownBlock])
theorem jbZ {q:Cub} {w:World} {m:Nat} (h:zl q t=0) (hm:flN q t=m) (ho:Over w w') (hP: (JS 0 28 2 (m+1) ((MP q m (m+1)).flatMap jV) x).P w') (hF:∀b,(JS 0 28 2 (m+1) ((MP q m (m+1)).flatMap jV) x).F b→w.heap.size≤b) :FlP q t (.returned (.tuple #[.slice x.1 (m+1) x.2, .int .i64 0])) w w':=by
 have e:MO q t=MP q m (m+1) :=by rw [MO,if_pos h,hm]
 have el: (MO q t).length=m+1:=by rw [e,Ss]
 exact⟨x,by rw [el,h],ho,by rw [el,e];exact hP,by rw [el,e];exact hF,sz⟩
theorem Gg (q:Cub) (t:Int) (w:World) :Calls Tryz.prog 87 #[MF q, .int .i64 t] w fun e w'=>FlP q t e w w':=by
 refine jK (m:=38) (Tryz.func87) J J (lb J) ?_;refine S3 ?_;refine aX (fun b1=> ?_);refine N7 ?_;refine a9 (jG GG J J (fun w1 hs=>FP q t w1)) ?_;refine S12 ?_;refine cZ (fun c1=> ?_) (fun c1=> ?_)
 ·refine S8 ?_;refine JX J (.tmp J) (.tmp J) ?_
  intro w' hs
  exact Ch (by simpa using c1) hs.fin
 ·have h0:zl q t=0:=by simpa using c1
  obtain ⟨hq,l,hl,hv⟩ :=Ia h0
  obtain ⟨e1,e2,e3⟩ :=Rl hl
  obtain ⟨m,hm⟩ :∃m,m=2^l:=⟨_,rfl⟩
  have hN:flN q t=m:=by rw [flN,hv,hm];rfl
  rw [hv]
  rw [←hm] at e1 e2 e3
  refine S5 ?_;refine a9 ((L7 J J J Om Om (by rw [e1];omega) (by rw [e1];omega)).as (congrArg _ e1)) ?_;refine S5 ?_;refine a9 ((jT J J J Om Om).as (congrArg _ (show(m:Int) +1= ((m+1:Nat) :Int) from J))) ?_;refine S1 ?_;refine jcS (m:=m+1) J J J jl jD J Dc Om Om (fun bm=> ?_);refine n9 ?_;refine jd6 1 2 (m+1) J J (by simp [madeCells]) (by unfold maxLen;omega) ?_;refine t9 ?_;refine S8 ?_;refine JE (X:=Nat×Option Addr×Nat) (fun x=>x.1≤m+1) (fun x=>m+1- x.1) (fun x=> [(9, .slice x.2.1 x.1 x.2.2),(10, .int .i64 (x.1:Int))]) (kK [2,4,5,8]) (fun x=> [.cel b1 122 [.int .i64 q.a.1, .int .i64 q.a.2, .int .i64 q.b.1, .int .i64 q.b.2, .int .i64 q.c.1, .int .i64 q.c.2, .int .i64 q.d.1, .int .i64 q.d.2],JS (Bs.N ⟨w,[]⟩) 28 2 x.1 ((MP q m x.1).flatMap jV) x.2]) (0,some ⟨bm,0,none⟩,m+1) (jie _) ⟨J,sz⟩ (fun _ h=>h) ?_
  intro⟨k,rA,rc⟩ hx L hL1
  refine v9 ?_;refine r9 ?_
  have hk:k≤m+1:=hx
  refine S7 ?_;refine cZ (fun c2=> ?_) (fun c2=> ?_)
  ·refine S9 ?_;refine a9 (jG LB J J (fun w1 hs=>Sc q (k:Int) (m:Int) w1 hq Om Om Om Om)) ?_;refine S1 ?_;refine jX J J (J9 J) J (lb J) (fun b2=> ?_);refine N1 ?_;refine JK (k:=1) J jl jD Dc J Dc J J J (fun w' hs=>qD hs (k:=2) J J) (by simp [Value.oneCell']) (by unfold maxLen;omega) Om (jif _) (fun r1=> ?_);refine N9 ?_
   exact Jd hL1 ((k+1,r1)) ((show k+1≤m+1 by omega)) (by simp only;omega) ⟨J,vi Om,sz⟩ (fun _ h=>h.upto ⟨J,by rw [DR,jii];rfl,trivial⟩)
  ·have hkm:k=m+1:=Om
   subst hkm
   refine S12 ?_;refine JX J (.tmp J) (.tmp J) ?_
   intro w' hs
   exact jbZ (x:= (rA,rc)) h0 hN hs.fin (wo (hs.all 1 _ rfl).1 (jie _)) (fun b hb=> ((hs.all 1 _ rfl).2.1 b hb).elim id (fun h=>by cases h))
abbrev VP (q:Cub) :List Value:= [.int .i64 q.a.1, .int .i64 q.a.2, .int .i64 q.b.1, .int .i64 q.b.2, .int .i64 q.c.1, .int .i64 q.c.2, .int .i64 q.d.1, .int .i64 q.d.2]
def CubAt (w:World) (b o:Nat) (q:Cub) :Prop:=b<w.heap.size∧∀j v,(VP q)[j]? =some v→w.cell? ⟨b,o+j,none⟩ =some v
section
variable {w:World} {Rs:List Res} {b o:Nat} {q:Cub}
theorem CubAt.one (h:CubAt w b o q) (j:Nat) (hj: (VP q)[j]? =some v) (he:off=o+j) :∀w',St ⟨w,[]⟩ Rs w'→w'.cell? ⟨b,off,none⟩ =some v:=fun w' hs=>he▸Qb (h.2 j v hj) h.1 w' hs
theorem CubAt.two (h:CubAt w b o q) (j:Nat) {u:Value} (hj: (VP q)[j]? =some u) (hj2: (VP q)[j+1]? =some v) (he:off=o+j) :∀w',St ⟨w,[]⟩ Rs w'→∀i x,[u,v][i]? =some x→w'.cell? ⟨b,off+i,none⟩ =some x:=fun w' hs i x hx=>by
 subst he
 match i,hx with
 | 0,hx=>simp at hx;subst hx;exact Qb (h.2 j _ hj) h.1 w' hs
 | 1,hx=>simp at hx;subst hx;rw [jji];exact Qb (h.2 (j+1) _ hj2) h.1 w' hs
theorem CubAt.over (h:CubAt w b o q) (ho:Over w w') :CubAt w' b o q:=⟨jio h.1 ho.size,fun j v hj=> ((Jr ho).1 b _ h.1).trans (h.2 j v hj)⟩
theorem jbR {w0:Bs} {k T:Nat} (hk:Rs[k]? =some (.cel b T (VP q))) :∀w,St w0 Rs w→CubAt w b 0 q:=fun w hs=>⟨J4 (hs.cel hk),fun j v hj=>Jj hk w hs j v hj⟩
end
theorem D2 (b o:Nat) (q:Cub) (w:World) (h:CubAt w b o q) :Calls Tryz.prog 80 #[.pointer (some ⟨b,o,none⟩)] w fun e w'=>e= .returned (.bool (ya q))∧Over w w':=by
 refine jK (m:=29) (Tryz.func80) J J (lb J) ?_;refine S9 ?_;refine a9 (jk J J jj J (h.two 0 J J Om)) ?_;refine a9 (jG W8 J J (fun w1 hs=>Ub q.a.1 q.a.2 w1)) ?_;refine S1 ?_;refine cV 8 (fun g1=> ?_) (fun g1=> ?_)
 ·refine S7 ?_;refine o9 (jk J J jj J (h.two 2 J J Om)) ?_;refine h9 ?_;refine o9 (jG W8 J J (fun w1 hs=>Ub q.b.1 q.b.2 w1)) ?_;refine S2 ?_;refine cV 15 (fun g2=> ?_) (fun g2=> ?_)
  ·refine S7 ?_;refine o9 (jk J J jj J (h.two 4 J J Om)) ?_;refine h9 ?_;refine o9 (jG W8 J J (fun w1 hs=>Ub q.c.1 q.c.2 w1)) ?_;refine S2 ?_;refine cV 22 (fun g3=> ?_) (fun g3=> ?_)
   ·refine S7 ?_;refine o9 (jk J J jj J (h.two 6 J J Om)) ?_;refine h9 ?_;refine o9 (jG W8 J J (fun w1 hs=>Ub q.d.1 q.d.2 w1)) ?_;refine S4 ?_;refine jJ J (.tmp J) ?_
    intro w' hs
    exact⟨QH (by simp [ya,QJ, *]),hs.fin⟩
   ·refine S9 ?_;refine jJ J (.tmp J) ?_
    intro w' hs
    exact⟨QH (by simp [ya,QJ, *]),hs.fin⟩
  ·refine S16 ?_;refine jJ J (.tmp J) ?_
   intro w' hs
   exact⟨QH (by simp [ya,QJ, *]),hs.fin⟩
 ·refine S23 ?_;refine jJ J (.tmp J) ?_
  intro w' hs
  exact⟨QH (by simp [ya,QJ, *]),hs.fin⟩
theorem SP (b o:Nat) (q:Cub) (w:World) (h:CubAt w b o q) (hq:CubOk q) :Calls Tryz.prog 197 #[.pointer (some ⟨b,o,none⟩)] w fun e w'=>e= .returned (.int .i64 (xS q))∧Over w w':=by
 refine jK (m:=32) (Tryz.func197) J J (lb J) ?_;refine S6 ?_;refine JH 30 ?_;refine dK 0 ?_;refine dK 1 ?_;refine dK 2 ?_;refine dZ 3 J (jk J J jj J (h.two 0 J J Om)) ?_;refine dK 4 ?_;refine dK 5 ?_;refine dK 6 ?_;refine dZ 7 J (jk J J jj J (h.two 2 J J Om)) ?_;refine dK 8 ?_;refine dK 9 ?_;refine dK 10 ?_;refine dZ 11 J (jk J J jj J (h.two 4 J J Om)) ?_;refine dZ 12 J (jG UG J J (fun w1 hs=>ZQ q.a q.b q.c w1 hq.a hq.b hq.c)) ?_;refine dZ 13 J (jG YB J J (fun w1 hs=>HI (XR q.a q.b q.c) w1 (Ha hq.a hq.b hq.c))) ?_;refine dK 14 ?_;refine dK 15 ?_;refine dK 16 ?_;refine dZ 17 J (jk J J jj J (h.two 2 J J Om)) ?_;refine dK 18 ?_;refine dK 19 ?_;refine dK 20 ?_;refine dZ 21 J (jk J J jj J (h.two 4 J J Om)) ?_;refine dK 22 ?_;refine dK 23 ?_;refine dK 24 ?_;refine dZ 25 J (jk J J jj J (h.two 6 J J Om)) ?_;refine dZ 26 J (jG UG J J (fun w1 hs=>ZQ q.b q.c q.d w1 hq.b hq.c hq.d)) ?_;refine dZ 27 J (jG YB J J (fun w1 hs=>HI (XR q.b q.c q.d) w1 (Ha hq.b hq.c hq.d))) ?_;refine dZ 28 J (jG kD J J (fun w1 hs=>Calls.still (KI _ _ w1))) ?_;refine dK 29 ?_;refine JB Kr ?_;refine S2 ?_;refine jJ J (.tmp J) ?_
 intro w' hs
 exact⟨rfl,hs.fin⟩
theorem jeN {x y:Int} (h1:0≤x) (h2:x≤786432) (h3: -262144≤y) (h4:y≤262144) : -206158430208≤x*y∧x*y≤206158430208:=by
 obtain ⟨u1,u2⟩ :=QW (a:=x) (b:=y) (A:=786432) (B:=262144) Om h2 h3 h4
 omega
theorem M5 (a b c d k n:Int) (w:World) (ha: -262144≤a∧a≤262144) (hb: -262144≤b∧b≤262144) (hc: -262144≤c∧c≤262144) (hd: -262144≤d∧d≤262144) (hk:0≤k) (hkn:k≤n) (h1:1≤n) (hn:n≤64) :
  Calls Tryz.prog 198 #[.int .i64 a, .int .i64 b, .int .i64 c, .int .i64 d, .int .i64 k, .int .i64 n] w fun e w'=>e= .returned (.int .i64 (jeO a b c d k n))∧Over w w':=by
 obtain ⟨⟨a1,a2⟩,⟨a3,a4⟩,⟨a5,a6⟩,a7,a8⟩ :=jf2 hk hkn hn
 have e0:jeO a b c d k n=yz ((n- k) * (n- k) * (n- k) *a+3* (n- k) * (n- k) *k*b+3* (n- k) *k*k*c+k*k*k*d) (n*n*n) :=rfl
 rw [e0]
 obtain ⟨u,hu⟩ :∃u,u=n- k:=⟨_,rfl⟩
 rw [←hu] at a1 a2 a5 a6⊢
 obtain ⟨b1,b2⟩ :=U0 a1 a2 (show 0≤u by omega) Om
 obtain ⟨b3,b4⟩ :=U0 a1 a2 hk Om
 obtain ⟨b5,b6⟩ :=U0 a5 a6 hk Om
 obtain ⟨b7,b8⟩ :=U0 a3 a4 hk Om
 obtain ⟨b9,b10⟩ :=U0 a7 a8 (show 0≤n by omega) hn
 have c1:3*u*u=3* (u*u) :=by grind
 have c2:3*u*u*k=3* (u*u*k) :=by grind
 have c3:3*u*k=3* (u*k) :=by grind
 have c4:3*u*k*k=3* (u*k*k) :=by grind
 have d0:1≤n*n*n:=by
  have x1:=jjW h1 h1 Dc Om
  have x2:=jjW x1 h1 Dc Om
  omega
 obtain ⟨m1,m2⟩ :=jeN (x:=u*u*u) Om Om ha.1 ha.2
 obtain ⟨m3,m4⟩ :=jeN (x:=3*u*u*k) Om Om hb.1 hb.2
 obtain ⟨m5,m6⟩ :=jeN (x:=3*u*k*k) Om Om hc.1 hc.2
 obtain ⟨m7,m8⟩ :=jeN (x:=k*k*k) Om Om hd.1 hd.2
 refine jK (m:=56) (Tryz.func198) J J (lb J) ?_;refine S9 ?_
 rw [←hu]
 refine S42 ?_;refine a9 (jG vr J J (fun w1 hs=>Calls.still (Wg _ _ w1 d0 Om Om Om))) ?_;refine S3 ?_;refine jJ J (.tmp J) ?_
 intro w' hs
 exact⟨rfl,hs.fin⟩
theorem jag (bb oo:Nat) (q:Cub) (k n:Int) (w:World) (h:CubAt w bb oo q) (hq:CubOk q) (hk:0≤k) (hkn:k≤n) (h1:1≤n) (hn:n≤64) :
  Calls Tryz.prog 139 #[.pointer (some ⟨bb,oo,none⟩), .int .i64 k, .int .i64 n] w fun e w'=>e= .returned (pV (atQ q k n))∧Over w w':=by
 refine jK (m:=54) (Tryz.func139) J J (lb J) ?_;refine S3 ?_;refine aL (fun b1=> ?_);refine N3 ?_;refine Q0 48 [0] ?_;refine dK 0 ?_;refine dK 1 ?_;refine dK 2 ?_;refine dK 3 ?_;refine dZ 4 J (jq J J jt (h.one 0 J Om)) ?_;refine dK 5 ?_;refine dK 6 ?_;refine dK 7 ?_;refine dK 8 ?_;refine dZ 9 J (jq J J jt (h.one 2 J Om)) ?_;refine dK 10 ?_;refine dK 11 ?_;refine dK 12 ?_;refine dK 13 ?_;refine dZ 14 J (jq J J jt (h.one 4 J Om)) ?_;refine dK 15 ?_;refine dK 16 ?_;refine dK 17 ?_;refine dK 18 ?_;refine dZ 19 J (jq J J jt (h.one 6 J Om)) ?_;refine dK 20 ?_;refine dK 21 ?_;refine dZ 22 J (jG zH J J (fun w1 hs=>M5 q.a.1 q.b.1 q.c.1 q.d.1 k n w1 hq.a.1 hq.b.1 hq.c.1 hq.d.1 hk hkn h1 hn)) ?_;refine dK 23 ?_;refine dK 24 ?_;refine dK 25 ?_;refine dK 26 ?_;refine dZ 27 J (jq J J jt (h.one 1 J Om)) ?_;refine dK 28 ?_;refine dK 29 ?_;refine dK 30 ?_;refine dK 31 ?_;refine dZ 32 J (jq J J jt (h.one 3 J Om)) ?_;refine dK 33 ?_;refine dK 34 ?_;refine dK 35 ?_;refine dK 36 ?_;refine dZ 37 J (jq J J jt (h.one 5 J Om)) ?_;refine dK 38 ?_;refine dK 39 ?_;refine dK 40 ?_;refine dK 41 ?_;refine dZ 42 J (jq J J jt (h.one 7 J Om)) ?_;refine dK 43 ?_;refine dK 44 ?_;refine dZ 45 J (jG zH J J (fun w1 hs=>M5 q.a.2 q.b.2 q.c.2 q.d.2 k n w1 hq.a.2 hq.b.2 hq.c.2 hq.d.2 hk hkn h1 hn)) ?_;refine dZ 46 J (JF J J (Qi J J)) ?_;refine qd (i:=47) J Dc Kr J ?_;refine S1 ?_;refine JU (uw [0] J) ?_;refine JB Kr ?_;refine S2 ?_;refine jJ J (JZ (k:=0) J jj J J) ?_
 intro w' hs
 exact⟨rfl,hs.fin⟩
theorem NR (bb oo:Nat) (q:Cub) (t:Int) (w:World) (h:CubAt w bb oo q) :Calls Tryz.prog 138 #[.pointer (some ⟨bb,oo,none⟩), .int .i64 t] w fun e w'=>e= .returned (.tuple #[.int .i64 (flV q t), .int .i64 (zl q t)])∧Over w w':=by
 refine jK (m:=28) (Tryz.func138) J J (lb J) ?_;refine S9 ?_;refine a9 (jG ZW J J (fun w1 hs=>D2 bb oo q w1 (h.over hs.fin))) ?_;refine S2 ?_;refine cZ (fun c1=> ?_) (fun c1=> ?_)
 ·refine S7 ?_;refine JX J (.tmp J) (.tmp J) ?_
  intro w' hs
  obtain ⟨e1,e2⟩ :=ND (t:=t) c1
  exact⟨by rw [e1,e2],hs.fin⟩
 ·refine S6 ?_;refine a9 (jG zJ J J (fun w1 hs=>Gx t w1)) ?_;refine S2 ?_;refine cZ (fun c2=> ?_) (fun c2=> ?_)
  ·refine S7 ?_;refine JX J (.tmp J) (.tmp J) ?_
   intro w' hs
   obtain ⟨e1,e2⟩ :=NE (t:=t) c1 (by simpa using c2)
   exact⟨by rw [e1,e2],hs.fin⟩
  ·have ht:1≤t∧t≤262144:=by simpa using c2
   have hq:=Ns c1
   have hb:=jbu hq
   obtain ⟨e1,e2⟩ :=jbY c1 ht
   rw [e1,e2]
   refine S8 ?_;refine qj (X:=Nat) (fun l=>l≤7∧∀j,j<l→Td (3*xS q) t j=false) (fun l=>7- l) (fun l=> [(6, .int .i64 (l:Int))]) (kK [0,1,4,5]) 0 (⟨jie _,fun j hj=>absurd hj (jjP j)⟩) ⟨J,sz⟩ ?_
   intro l hl L hL1
   refine v9 ?_
   obtain ⟨hl7,hno⟩ :=hl
   refine S6 ?_;refine cZ (fun c3=> ?_) (fun c3=> ?_)
   ·have hl6:l≤6:=Om
    obtain ⟨p1,p2⟩ :=jfW hl6 ht
    refine S7 ?_;refine a9 (jG LH J J (fun w1 hs=>SP bb oo q w1 (h.over hs.fin) hq)) ?_;refine S5 ?_;refine a9 (ku J Tryz.underlying2 Tryz.underlying184 J (by simp [IntKind.wrap,IntKind.bits,IntKind.signed];omega)) ?_;refine a9 (L7 J J J Om Om Om Om) ?_;refine S2 ?_;refine cZ (fun c4=> ?_) (fun c4=> ?_)
    ·obtain ⟨f1,f2⟩ :=jct hl6 hno (show Td (3*xS q) t l=true from decide_eq_true c4)
     refine S12 ?_;refine JX J (.tmp J) (.tmp J) ?_
     intro w' hs
     exact⟨by rw [f1,f2],hs.fin⟩
    ·refine S8 ?_
     exact qa hL1 (l+1) (⟨by omega,fun j hj=>by by_cases e:j=l;subst e;exact decide_eq_false (Int.not_le.2 c4);exact hno j Om⟩) Om ⟨vi Om,sz⟩ (u9 rfl)
   ·obtain ⟨f1,f2⟩ :=jfL (s:=3*xS q) (t:=t) fun j hj=>hno j Om
    refine S11 ?_;refine JX J (.tmp J) (.tmp J) ?_
    intro w' hs
    exact⟨by rw [f1,f2],hs.fin⟩
theorem Za (q:Cub) (t:Int) (w:World) :Calls Tryz.prog 81 #[MF q, .int .i64 t] w fun e w'=>FlP q t e w w':=by
 refine jK (m:=35) (Tryz.func81) J J (lb J) ?_;refine S3 ?_;refine aX (fun b1=> ?_);refine N6 ?_;refine a9 (jG Ot J J (fun w1 hs=>NR _ 0 q t w1 (jbR (k:=0) J w1 hs))) ?_;refine S12 ?_;refine cZ (fun c1=> ?_) (fun c1=> ?_)
 ·refine S8 ?_;refine JX J (.tmp J) (.tmp J) ?_
  intro w' hs
  exact Ch (by simpa using c1) hs.fin
 ·have h0:zl q t=0:=by simpa using c1
  obtain ⟨hq,l,hl,hv⟩ :=Ia h0
  obtain ⟨e1,e2,e3⟩ :=Rl hl
  obtain ⟨m,hm⟩ :∃m,m=2^l:=⟨_,rfl⟩
  have hN:flN q t=m:=by rw [flN,hv,hm];rfl
  rw [hv]
  rw [←hm] at e1 e2 e3
  refine S5 ?_;refine jX J J (Qk) J (lb J) (fun b2=> ?_);refine KQ 1 2 J J ?_;refine N5 ?_;refine a9 (ku J Tryz.underlying2 Tryz.underlying184 J (by simp [IntKind.wrap,IntKind.bits,IntKind.signed];omega)) ?_;refine a9 ((L7 J J J Om Om (by rw [e1];omega) (by rw [e1];omega)).as (congrArg _ e1)) ?_;refine S8 ?_;refine JE (X:=Nat×Option Addr×Nat) (fun x=>x.1≤m+1) (fun x=>m+1- x.1) (fun x=> [(8, .slice x.2.1 x.1 x.2.2),(10, .int .i64 (x.1:Int))]) (kK [2,4,5,9]) (fun x=> [.cel b1 122 (VP q),JS (Bs.N ⟨w,[]⟩) 28 2 x.1 ((MP q m x.1).flatMap jV) x.2]) (0,some ⟨b2,0,none⟩,0) (jie _) ⟨J,sz⟩ (fun _ h=>h) ?_
  intro⟨k,rA,rc⟩ hx L hL1
  refine v9 ?_;refine r9 ?_
  have hk:k≤m+1:=hx
  refine S7 ?_;refine cZ (fun c2=> ?_) (fun c2=> ?_)
  ·refine S8 ?_;refine a9 (jG Dj J J (fun w1 hs=>jag _ 0 q (k:Int) (m:Int) w1 (jbR (k:=0) J w1 hs) hq Om Om Om Om)) ?_;refine S1 ?_;refine jX J J (J9 J) J (lb J) (fun b3=> ?_);refine N1 ?_;refine JK (k:=1) J jl jD Dc J Dc J J J (fun w' hs=>qD hs (k:=2) J J) (by simp [Value.oneCell']) (by unfold maxLen;omega) Om (jif _) (fun r1=> ?_);refine N9 ?_
   exact Jd hL1 ((k+1,r1)) ((show k+1≤m+1 by omega)) (by simp only;omega) ⟨J,vi Om,sz⟩ (fun _ h=>h.upto ⟨J,by rw [DR,jii];rfl,trivial⟩)
  ·have hkm:k=m+1:=Om
   subst hkm
   refine S12 ?_;refine JX J (.tmp J) (.tmp J) ?_
   intro w' hs
   exact jbZ (x:= (rA,rc)) h0 hN hs.fin (wo (hs.all 1 _ rfl).1 (jie _)) (fun b hb=> ((hs.all 1 _ rfl).2.1 b hb).elim id (fun h=>by cases h))
end Go.Proofs.YtbahojdbmmjkcaaGreat
