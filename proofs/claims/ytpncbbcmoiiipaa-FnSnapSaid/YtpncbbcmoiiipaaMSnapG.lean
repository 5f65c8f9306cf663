import Derived.Test.YtpncbbcmoiiipaaMRounds
import Derived.Test.YtpncbbcmoiiipaaMHotLaw
import Derived.Test.YtpncbbcmoiiipaaMCross
import Derived.Test.YtpncbbcmoiiipaaMLawKit
set_option linter.unusedVariables false
set_option linter.unusedSimpArgs false
namespace Go.Proofs.Ytpncbbcmoiiipaa
open Go Go.RowKit
set_option maxRecDepth 100000
set_option maxHeartbeats 4000000
def xj (E:List Leg) :List Pn:=Kf (VJ E E.length)
theorem xw {a b c d:Pn} (h:Qx a b c d=2) :J4 a b c d=true:=by
 unfold Qx at h
 split at h
 ·split at h
  ·rename_i h1;exact h1
  ·omega
 ·split at h<;>omega
theorem zV {E:List Leg} :∀i,i≤E.length→∀k,k<i→lA (lg E k)∈VJ E i∧lB (lg E k)∈VJ E i
 | 0,_,k,hk=>absurd hk Om
 | i+1,hi,k,hk=>by
  rw [VJ]
  rcases Fq9 (show k≤i by omega) with h | rfl
  ·obtain ⟨h1,h2⟩ :=zV (E:=E) i Om k h
   exact⟨Fy _ (Fy _ h1),Fy _ (Fy _ h2)⟩
  ·exact⟨Fy _ (F7 _ (by simp)),Fy _ (F7 _ (by simp))⟩
theorem Hx {E:List Leg} (hok:∀l∈E,kq l) {i:Nat} (hi:i<E.length) :∀k,k≤i→∀p∈cz E i k,bd2 p
 | 0,_,p,hp=>by simp [cz] at hp
 | k+1,hk,p,hp=>by
  rw [cz] at hp
  rcases DV.1 hp with h | h
  ·exact Hx hok hi k Om p h
  ·split at h
   ·rename_i hm
    rw [DP.1 h]
    exact(Gn (Kb (Qw hok Om)) (Ko (Qw hok Om)) (xw hm)).1
   ·simp at h
theorem Xu {E:List Leg} (hok:∀l∈E,kq l) :∀i,i≤E.length→∀p∈VJ E i,bd2 p
 | 0,_,p,hp=>by simp [VJ] at hp
 | i+1,hi,p,hp=>by
  rw [VJ] at hp
  rcases DV.1 hp with h | h
  ·rcases DV.1 h with h | h
   ·exact Xu hok i Om p h
   ·simp only [DZ,Fp,or_false] at h
    rcases h with rfl | rfl
    ·exact Kb (Qw hok Om)
    ·exact Ko (Qw hok Om)
  ·exact Hx hok Om i (DM _) p h
theorem Gf {l:List Pn} (h:Asc l) :l.Nodup:=List.Pairwise.imp (fun {a b} (hab:Wb a b) (e:a=b) =>KQ a (by rw [←e] at hab;exact hab)) h
theorem W6 {E:List Leg} {k:Nat} (hk:k<E.length) :lg E k=E[k] :=by simp [lg,List.getD,hk]
theorem UC {rs:List jx} :∀k,k≤rs.length→cnt (QZ rs k) = (JJ rs k).length
 | 0,_=>rfl
 | k+1,hk=>by
  have ih:=UC (rs:=rs) k Om
  have e: (JJ rs (k+1)).length= (JJ rs k).length+ (Jf (rg rs k)).length:=DK
  have e2: (QJ (rg rs k)).length= (Jf (rg rs k)).length:=Fc ..
  by_cases h:0< (QJ (rg rs k)).length
  ·rw [wF Om h,e,←ih]
   simp [cnt,e2]
  ·rw [WX Om h,e,←ih]
   omega
theorem uu {rs:List jx} (hr:Je rs=true) :∀r∈JP rs,bare r:=fun r h=>by
 obtain ⟨h0,q,hq,rfl⟩ :=wE h
 obtain ⟨i,hi,e⟩ :=Fe hq
 have:=qN (kC hr hi)
 rw [Ku hi] at e
 rw [e] at this
 exact y8 this.1 h0
theorem Me {xs:List Pn} (h:qd xs=true) :∀p∈QJ xs,KD p.1 p.2=true:=fun p hp=>by
 obtain ⟨l,hl,rfl⟩ :=Fi.1 hp
 exact kE (Kb (wM (vh h).2.2 _ (DM _) l hl))
theorem Z0 {rs:List jx} (hr:Je rs=true) :Je (JP rs) =true:=by
 have h40:=we hr
 have hl:=UD rs rs.length
 have hcnt: (jv (JP rs)).length≤400:=by
  rw [Wl (uu hr)]
  have:=UC (rs:=rs) rs.length (DM _)
  have h4: (jv rs).length≤400:=by simp [Je] at hr;omega
  unfold jv at h4
  unfold JP
  omega
 have hall: (JP rs).all qd=true:=FG.2 fun r h=>by
  have hs:=UQ hr h
  obtain ⟨h0,q,hq,rfl⟩ :=wE h
  obtain ⟨i,hi,e⟩ :=Fe hq
  have hb:=kC hr hi
  rw [Ku hi] at e
  rw [e] at hb
  unfold qd wB
  rw [decide_eq_true (show(1:Int)≤((QJ q).length:Int) by omega),decide_eq_true (show((QJ q).length:Int)≤400 by omega)]
  exact FG.2 fun p hp=>Me hb p hp
 rw [KW (by unfold JP;omega) hall]
 exact decide_eq_true hcnt
structure HotOk (hot:List Pn) (ss:List jx) :Prop where
 reg:Je ss=true
 ok:∀p∈hot,KD p.1 p.2=true
 asc:Asc hot
 nd:hot.Nodup
 len:hot.length≤1048576
 bare:bareG hot ss
theorem yR {rs:List jx} {j:Nat} :∀k,j<k→∀l∈Jf (rg rs j),l∈JJ rs k
 | 0,h,_,_=>absurd h Om
 | k+1,h,l,hl=>by
  show l∈JJ rs k++Jf (rg rs k)
  rcases Fq9 (show j≤k by omega) with h1 | rfl
  ·exact Fy _ (yR k h1 l hl)
  ·exact F7 _ hl
theorem O8 {ss:List jx} (hr:Je ss=true) (hb:∀r∈ss,bare r) :HotOk (xj (jv ss)) ss:=by
 have hok:=U5 hr
 have h4: (jv ss).length≤400:=by simp [Je] at hr;omega
 have hends:∀l∈jv ss,lA l∈xj (jv ss) :=fun l hl=>by
  obtain ⟨k,hk,e⟩ :=Fe hl
  have:= (zV (E:=jv ss) _ (DM _) k hk).1
  rw [W6 hk,e] at this
  exact(KU _ _).2 this
 refine⟨hr,fun p hp=>kE (Xu hok _ (DM _) p ((KU _ _).1 hp)),wU _,Gf (wU _),?_,fun r h=>⟨hb r h,fun p hp=> ?_⟩⟩
 ·have h1:=xG (VJ (jv ss) (jv ss).length)
  have h2:=Ws (jv ss) (jv ss).length
  have h3: (jv ss).length* ((jv ss).length+2)≤400*402:=FW h4 Om
  unfold xj
  omega
 ·obtain ⟨j,hj,e⟩ :=Fe h
  rw [Ku hj] at e
  have hbr:=hb r h
  have hp2:p∈(Jf r).map lA:=by
   rw [qF hbr,List.map_map]
   have e2: (Qj r).map (lA∘LT) = (Qj r).map (·.1) :=rfl
   rw [e2,KM]
   exact hp
  obtain ⟨l,hl,rfl⟩ :=Fi.1 hp2
  exact hends l (yR (rs:=ss) _ hj l (by rw [e];exact hl))
def Wc (rs:List jx) :List Pn:=xj (jv (JP rs))
theorem XV {rs:List jx} (hr:Je rs=true) :HotOk (Wc rs) (JP rs) :=O8 (Z0 hr) (uu hr)
def Vw (rs:List jx) :List jx:=if Je rs=true then X2 (Wc rs) (JP rs) else []
def G5 (rs:List jx) :Int:=if Je rs=true then MJ (Wc rs) (JP rs) else 0
def GU (rs:List jx) :Int:=if Je rs=true then(if yh (Wc rs) (JP rs) =true then 0 else 5) else 1
theorem Bw {rs:List jx} (h:Je rs=false) :Vw rs= []∧G5 rs=0∧GU rs=1:=by simp [Vw,G5,GU,h]
theorem ze {rs:List jx} (h:Je rs=true) :Vw rs=X2 (Wc rs) (JP rs)∧G5 rs=MJ (Wc rs) (JP rs)∧GU rs= (if yh (Wc rs) (JP rs) =true then 0 else 5) :=by simp [Vw,G5,GU,h]
theorem Yu {hot:List Pn} (hnd:hot.Nodup) :∀(f:Nat) {rs ss:List jx} {r q:Nat},Je rs=true→bareG hot rs→KY hot f rs r=some (ss,q)→Je ss=true
 | 0,_,_,_,_,_,_,h=>by cases h
 | f+1,rs,ss,r,q,hr,hb,h=>by
  rw [KY] at h
  split at h
  ·cases h
  ·rename_i h1
   split at h
   ·injection h with h
    injection h with h2 h3
    exact h2▸hr
   ·exact Yu hnd f (by simpa using h1) (hb.snap hnd) h
theorem LH {hot:List Pn} (hnd:hot.Nodup) {rs ss:List jx} {r:Nat} (hr:Je rs=true) (hb:bareG hot rs) (h:u6 hot rs=some (ss,r)) :Je ss=true:=Yu hnd _ hr hb h
theorem Of {P:Program} {f:FuncId} {args:Array Value} {w1:World} {n lo hi:Nat} {ss rs:List jx} {A:Option Addr} {c:Nat} {V:Option Addr→Nat→Value} (hg: (vy n ss lo hi A).P w1) (hn:ss.length=n)
  (h:Calls P f args w1 fun e w'=>∃A' c',e= .returned (V A' c')∧((A'=A∧c'=c∧rs=ss)∨OwnG w1.heap.size w'.heap.size w' A' rs.length rs)∧Over w1 w') :
  Calls P f args w1 fun e w'=>∃x: (Option Addr×Nat)×Nat×Nat,e= .returned (V x.1.1 x.1.2)∧Wrs (vy n ss lo hi A).F w1 w'∧(vy rs.length rs x.2.1 x.2.2 x.1.1).P w'∧(∀b,(vy rs.length rs x.2.1 x.2.2 x.1.1).F b→(vy n ss lo hi A).F b∨w1.heap.size≤b)∧(vy rs.length rs x.2.1 x.2.2 x.1.1).B=0:=by
 refine h.mono ?_
 rintro e w' ⟨A',c',rfl,ho,hO⟩
 rcases ho with⟨rfl,rfl,rfl⟩ | ho
 ·subst hn
  have hz:hi≤w1.heap.size:=hg.1
  exact⟨((A',c'),lo,hi),rfl,Wrs.of hO,L9 ((HC hg).agree fun b h1 h2=>hO.out.block b Om) (FE hz hO.size),fun b hb=> .inl hb,rfl⟩
 ·exact⟨((A',c'),w1.heap.size,w'.heap.size),rfl,Wrs.of hO,L9 ho (DM _),fun b hb=> .inr hb.1,rfl⟩
theorem Vx (A:Option Addr) (n c:Nat) (rs:List jx) (w:World) (h:Rings w A n rs) (ht: (Qq rs:Int)≤1048577) :
  Calls Try.prog 6 #[kP A n c] w fun e w'=>∃A' c',e= .returned (.tuple #[kP A' (Vw rs).length c', .int .i64 (G5 rs), .int .i64 (GU rs)])∧OwnG w.heap.size w'.heap.size w' A' (Vw rs).length (Vw rs)∧Over w w':=by
 have hl:=h.1
 refine Jh (m:=19) (Try.func6) J J (lb J) ?_;refine S3 ?_;refine aX (fun b1=> ?_);refine N1 ?_;refine aL (fun b2=> ?_);refine N7 ?_;refine a9 (jN Qz J J (fun w1 hs=>Kt A n c rs w1 (h.over hs.fin) ht)) ?_;refine S2 ?_;refine cZ (fun c1=> ?_) (fun c1=> ?_)
 ·refine S2 ?_;refine a9 (JU J J (kb)) ?_;refine S7 ?_;refine Ud J (qO (k:=1) J jL J J) (.tmp J) (.tmp J) ?_
  intro w' hs
  obtain ⟨e1,e2,e3⟩ :=Bw c1
  exact⟨none,0,by rw [e1,e2,e3];rfl,by rw [e1];exact OwnG.nil none,hs.fin⟩
 ·have hr:Je rs=true:=c1
  obtain ⟨e1,e2,e3⟩ :=ze hr
  have hk:=XV hr
  have hsm:=smallR.of hk.reg
  have hok:=U5 hk.reg
  have h4:=Lu hk.reg
  have hst:=hsm.total
  refine S6 ?_;refine QQ wq (X:= (Option Addr×Nat)×Nat×Nat) (v:=fun x=>kP x.1.1 (JP rs).length x.1.2) (r:=fun x=>vy (JP rs).length (JP rs) x.2.1 x.2.2 x.1.1) (H:=fun _=>True) J J J (lb J) (fun w1 hs=>xi (uQ A n c rs w1 (h.over hs.fin) hr)) ?_
  rintro⟨⟨gA,gc⟩,glo,ghi⟩ -
  refine N5 ?_;refine Qn 4 [1] ?_;refine dK 0 ?_;refine dV 1 [2,3] ?_;refine Qs (i:=2) J Dc Kr J ?_;refine QQ Kx (v:=fun x:Option Addr×Nat=> .slice x.1 (jv (JP rs)).length x.2) (r:=fun x=>qx 0 54 4 (jv (JP rs)).length ((jv (JP rs)).flatMap JH) x) (H:=fun _=>True) J J J (lb J) (fun w1 hs=>KH (VF gA _ gc (JP rs) w1 (HC (hs.all 2 _ J).1).rings Om)) ?_
  rintro⟨eA,ec⟩ -
  refine n9 ?_;refine qo (uw [1] J) ?_;refine Qs (i:=3) J Dc Kr J ?_;refine QQ ve (v:=fun x:Option Addr×Nat=> .slice x.1 (Wc rs).length x.2) (r:=fun x=>qx 0 27 2 (Wc rs).length ((Wc rs).flatMap jI) x) (H:=fun _=>True) J J J (lb J) (fun w1 hs=>KH (wA eA _ ec (jv (JP rs)) w1 (Vh (k:=3) (x:= (eA,ec)) (ls:=jv (JP rs)) J J w1 hs) hok h4 (U6 (hs.all 3 _ J).1))) ?_
  rintro⟨pA,pc⟩ -
  refine n9 ?_;refine qo (uw [1] J) ?_;refine wJ J Kr J ?_;refine JT (k:=2) (X:= (Option Addr×Nat)×Nat×Nat) (v:=fun x=> .tuple #[kP x.1.1 (X2 (Wc rs) (JP rs)).length x.1.2, .int .i64 (MJ (Wc rs) (JP rs)), .int .i64 (if yh (Wc rs) (JP rs) =true then 0 else 5)]) (r':=fun x=>vy (X2 (Wc rs) (JP rs)).length (X2 (Wc rs) (JP rs)) x.2.1 x.2.2 x.1.1) wP J J J Dc J (fun w1 hs=>Of (A:=gA) (c:=gc) (V:=fun A' c'=> .tuple #[kP A' (X2 (Wc rs) (JP rs)).length c', .int .i64 (MJ (Wc rs) (JP rs)), .int .i64 (if yh (Wc rs) (JP rs) =true then 0 else 5)]) (hs.all 2 _ J).1 J (yb gA _ gc (JP rs) pA (Wc rs).length pc (Wc rs) w1 (HC (hs.all 2 _ J).1).rings hk.reg (Li (hs.all 4 _ J).1 J) hk.len (U6 (hs.all 4 _ J).1) hk.ok hk.asc hk.nd hk.bare)) ?_
  rintro⟨⟨hA,hc⟩,hlo,hhi⟩
  refine n9 ?_;refine Qn 11 [1] ?_;refine dK 5 ?_;refine dK 6 ?_;refine dK 7 ?_;refine Qs (i:=8) J Dc Kr J ?_;refine S1 ?_;refine qo (uw [1] J) ?_;refine dK 9 ?_;refine dK 10 ?_;refine JI Kr ?_;refine S2 ?_;refine Ud J (qO (k:=1) J jL J J) (.tmp J) (.tmp J) ?_
  intro w' hs
  have hg:=hs.all 2 _ rfl
  have ho:=Oe hg.1 (fun b hb=> (hg.2.1 b hb).elim id (fun h=>by cases h))
  exact⟨hA,hc,by rw [e1,e2,e3],by rw [e1];exact ho,hs.fin⟩
end Go.Proofs.Ytpncbbcmoiiipaa
namespace Go.Proofs.Ytpncbbcmoiiipaa
open Go Go.RowKit
def BL (e f:Leg) :Prop:=Wb (lA e) (lA f)∨(lA e=lA f∧Wb (lB e) (lB f))
instance (e f:Leg) :Decidable (BL e f) :=by unfold BL;exact inferInstance
def BR (e:Leg) :Leg:=⟨e.bx,e.b_y,e.ax,e.ay⟩
def BD (e:Leg) :Leg:=if Wb (lB e) (lA e) then BR e else e
def sg (e:Leg) :Int:=if Wb (lB e) (lA e) then-1 else 1
def sm {α:Type} (f:α→Int) :List α→Int
 | [] =>0
 | x::l=>f x+sm f l
theorem un {α:Type} (f:α→Int) :∀a b:List α,sm f (a++b) =sm f a+sm f b
 | [],b=>by simp [sm]
 | x::a,b=>by simp only [D6,sm,un f a b];omega
theorem U9 {α:Type} {f g:α→Int} :∀ {l:List α},(∀x∈l,f x=g x)→sm f l=sm g l
 | [],_=>rfl
 | x::l,h=>by simp only [sm];rw [h x (by simp),U9 fun y hy=>h y (D2 _ hy)]
structure Nt where
 e:Leg
 one:Int
 two:Int
 l1:Int
 l2:Int
def MX (e:Leg) :Nt:=⟨e,0,0,0,0⟩
def Hl (s:Bool) (n:Int) (x:Nt) :Nt:=if s=true then {x with two:=x.two+n} else {x with one:=x.one+n}
def O0 (s:Bool) (e:Leg) :List Nt→List Nt
 | [] => [Hl s (sg e) (MX (BD e))]
 | x::l=>if BL x.e (BD e) then x::O0 s e l else if x.e=BD e then Hl s (sg e) x::l else Hl s (sg e) (MX (BD e)) ::x::l
structure Ne where
 e:Leg
 net:Int
 left:Int
 right:Int
theorem MF {α:Type} (f:α→Int) {l:List α} {k:Nat} (h:k<l.length) :sm f (l.take (k+1)) =sm f (l.take k) +f l[k] :=by
 rw [DY h,un]
 simp [sm]
theorem LJ (l:Leg) (x y:Int) :Vu l x y=if(l.ay≤y∧y<l.b_y)∧0<QX l.ax l.ay l.bx l.b_y x y then 1 else if(l.b_y≤y∧y<l.ay)∧QX l.ax l.ay l.bx l.b_y x y<0 then-1 else 0:=by
 unfold Vu ML uG
 simp only [DL,decide_eq_true_eq]
def qu (x y mx my:Int) :Int:=if mx<x∧y≤my then 1 else 0
theorem Ya {es:List Leg} {e:Leg} (h:e∈es) :∃i,i<es.length∧lg es i=e:=by
 obtain ⟨i,hi,rfl⟩ :=Fe h
 exact⟨i,hi,(ZY hi).symm⟩
end Go.Proofs.Ytpncbbcmoiiipaa
