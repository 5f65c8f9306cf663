import Derived.Test.YtbahojdbmmjkcaaGreatMBoEnd
import Derived.Test.YtbahojdbmmjkcaaGreatMTrQ
import Derived.Test.YtbahojdbmmjkcaaGreatMTopo4
set_option linter.unusedVariables false
set_option linter.unusedSimpArgs false
namespace Go.Proofs.YtbahojdbmmjkcaaGreat
open Go Go.RowKit
variable {A:Option Addr} {b m n:Nat} {l:List Pc} {rs:List jO} {w:World} {x:Option Addr×Nat}
set_option maxRecDepth 100000
set_option maxHeartbeats 4000000
def Dp (n:Nat) (rs:List jO) :Prop:=rs.length≤n∧∀r∈rs,(0<r.length∧r.length≤6)∧∀p∈r,E7 50 p
theorem Im {n:Nat} {rs:List jO} (h:Dp n rs) :∀k,k≤rs.length→WR rs k≤6*k
 | 0,_=>by simp [WR]
 | k+1,hk=>by
  have h1:=Im h k Om
  have h2:= (h.2 (rg rs k) (wu (show k<rs.length by omega)▸jju _)).1.2
  simp only [WR]
  omega
theorem Il (h:Dp n rs) (hn:n≤10) :Jp rs=true:=by
 have h1:=h.1
 have h2:=Im h rs.length (jjm _)
 have h3:=yT rs rs.length
 have h4:rs.all Qz=true:=jkj.2 fun r hr=>by
  obtain ⟨⟨a,b⟩,c⟩ :=h.2 r hr
  have e:WY r=true:=jkj.2 fun p hp=>Wu (jgy (c p hp) Dc)
  simp only [Qz,ZX,jjl,decide_eq_true_eq]
  exact⟨⟨by omega,by omega⟩,e⟩
 rw [U9 Om h4]
 exact decide_eq_true (by unfold jt;omega)
theorem Hi (h:Dp n rs) :total rs≤7*n:=by
 have h1:=h.1
 have h2:=Im h rs.length (jjm _)
 unfold total
 omega
theorem Cy {ss:List jO} (h:Dp n rs) (h2:Dp m ss) :Dp (n+m) (rs++ss) :=
 ⟨by rw [jjk];have:=h.1;have:=h2.1;omega,fun r hr=> (jjz.1 hr).elim (h.2 r) (h2.2 r)⟩
abbrev jiS (n:Nat) := {rs:List jO//Dp n rs}
abbrev DPt:= {p:Pn//E7 50 p}
abbrev DX (n:Nat) :=jiS n×(Option Addr×Nat)×Nat×Nat
abbrev Ik {m:Nat} (x:DX m) :Res:=kI x.1.1.length x.1.1 x.2.2.1 x.2.2.2 x.2.1.1
abbrev xR (b:Nat) (A:Option Addr) (n c K:Nat) {m:Nat} (x:DX m) :Res:= .many [srcR b A n c K,Ik x]
section
variable {n:Nat} {env:List (Nat×Value)} {w0:Bs} {Rs:List Res} {K:Act→World→Prop}
theorem MA (k:Nat) {c K1 K2:Nat} (hk:Rs[k]? =some (srcR b A m c K1)) (hK:K1≤K2) (h:At n env w0 (Rs.set k (srcR b A m c K2)) K) :At n env w0 Rs K:=fun a w hf hs=>
 h a w hf (hs.chg hk (fun hP=>srcR.more hP hK) (fun c hc=>hc) rfl)
theorem Nu (k:Nat) {T:Nat} (c:Nat) (xs:List (Int×Int)) (hk:Rs[k]? =some (.cel b T (xs.flatMap Jr))) (h:At n env w0 (Rs.set k (Pc.res ⟨xs,some ⟨b,0,none⟩,c,b,b+1⟩)) K) :At n env w0 Rs K:=fun a w hf hs=>by
 have hh:=hs.cel hk
 refine h a w hf (hs.chg hk (fun hP=>jhN ⟨J,fun h0=>⟨b,0,T,_,J,jjm _,Nat.lt_succ_self _,hh,fun j hj=> ?_⟩⟩ (JT hh)) (fun q hq=> ?_) J)
 ·have hf:=fun q hq=>Xh xs j q hj hq
  have h0:=hf 0 Om
  have h1:=hf 1 Om
  rw [yU hj] at h0 h1
  rw [jjP,List.getElem?_toArray,List.getElem?_toArray]
  exact⟨by simpa [Jr] using h0,by simpa [Jr] using h1⟩
 ·have hq':b≤q∧q<b+1:=hq
  show q=b
  omega
end
theorem TI {w':World} {Rs:List Res} (hs:St ⟨w,[b]⟩ Rs w') {ks kr kp B T:Nat} {r:Res} (hk:Rs[ks]? =some r) (hF:r.F b) (hr:Rs[kr]? =some (J3 B T 1 n (l.map Pc.val) x)) (hp:Rs[kp]? =some (vF l)) (hne:kr≠kp) (h1:ks≠kr) (h2:ks≠kp) (hl:l.length=n) (hm:∀e∈l,e.xs.length≤1099511627776) :OwnG w.heap.size w'.heap.size w' x.1 n (l.map (·.xs)) :=by
 have hrow:w'.ownsRow B T 1 (.slice x.1 n x.2) n (l.map Pc.val) := (hs.all kr _ hr).1
 have hX:=hs.all kp _ hp
 rcases hrow.2 with⟨_,e⟩ |⟨g,cap,cur,e,hb,hg,hcap,hmax,hsz,htk⟩
 ·subst e
  obtain rfl:l= [] :=jjW hl
  exact OwnG.nil _
 ·injection e with e1 e2 e3
  rw [e1]
  have hFg: (J3 B T 1 n (l.map Pc.val) x).F g:=by show Value.ownBlock (.slice x.1 n x.2) =some g;rw [e1];rfl
  have hown:=IY (lo:=w.heap.size) (o:=0) hg (((hs.all kr _ hr).2.1 g hFg).elim id (fun h=>absurd hFg (hs.apart ks kr _ _ h1 hk hr g (jjp.1 h▸hF)))) (fun j hj=> ?_) hX.1 (fun h=>hs.apart kr kp _ _ hne hr hp g hFg h) (fun q hq=> (hX.2.1 q hq).elim id (fun h=>absurd hq (hs.apart ks kp _ _ h2 hk hp q (jjp.1 h▸hF)))) (fun e he=>by have:=hm e he;omega)
  ·rw [hl] at hown
   exact hown
  ·have hc:cur[j]? = (l.map Pc.val)[j]? :=by rw [←htk,List.getElem?_take,if_pos Om];simp
   rw [jjP,hc]
   simp [hj]
theorem jik {w':World} {c K K':Nat} {x:DX m} (hP: (srcR b A n c K').P w') (hlt:b<w.heap.size) (hO:OwnG w.heap.size w'.heap.size w' x.2.1.1 x.1.1.length x.1.1) (h1:x.2.2.1=w.heap.size) (h2:x.2.2.2=w'.heap.size) :
  (xR b A n c K' x).P w'∧(∀q,(xR b A n c K' x).F q→(srcR b A n c K).F q∨w.heap.size≤q)∧(xR b A n c K' x).B=0:=by
 obtain ⟨y,⟨a,c2⟩,lo,hi⟩ :=x
 have h1:lo=w.heap.size:=h1
 have h2:hi=w'.heap.size:=h2
 subst h1 h2
 refine⟨jiu hP (jfh hO (jjm _)) J J (fun q hq hq2=> ?_),fun q hq=> ?_,J⟩
 ·have hq:q=b:=hq
  have hq2:w.heap.size≤q∧q<w'.heap.size:=hq2
  omega
 ·obtain ⟨r,hr,hq⟩ :=hq
  simp only [jjw,jj8,or_false] at hr
  rcases hr with rfl | rfl
  ·exact .inl hq
  ·exact .inr hq.1
section
variable {b n c K:Nat} {A:Option Addr} {zs:List Int} {w:World}
def pcOk (l:List Pc) :Prop:=∀e∈l,(0<e.xs.length∧e.xs.length≤6)∧∀p∈e.xs,E7 50 p
theorem pcOk.push (h:pcOk l) {e:Pc} (he: (0<e.xs.length∧e.xs.length≤6)∧∀p∈e.xs,E7 50 p) :pcOk (l++ [e]) :=fun q hq=> (jjz.1 hq).elim (h q) (fun h1=>by rw [jjp.1 h1];exact he)
theorem pcOk.drw (h:pcOk l) (hl:l.length≤n) :Dp n (l.map (·.xs)) :=⟨by rw [jjB];exact hl,fun r hr=>by
 obtain ⟨e,he,rfl⟩ :=jjx.1 hr
 exact h e he⟩
theorem SX (hB:Byts w A n zs) (hne:0<n→∀p,A=some p→p.block≠b) (hP: (srcR b A n c K).P w) (hn:n≤1048576) (hK:K≤1000) :
  Calls Tryz.prog 99 #[.pointer (some ⟨b,0,none⟩), .int .i64 2, .int .i64 6] w fun e w'=>∃x:DX 2,e= .returned (qr x.2.1.1 x.1.1.length x.2.1.2)∧Wrs (srcR b A n c K).F w w'∧(xR b A n c (K+200) x).P w'∧(∀q,(xR b A n c (K+200) x).F q→(srcR b A n c K).F q∨w.heap.size≤q)∧(xR b A n c (K+200) x).B=0:=by
 have hlt:= (srcR b A n c K).low w hP b rfl
 refine Vy (m:=48) ([b]) (srcR b A n c K) (hP) (fun q hq=>jjp.2 hq) J (Tryz.func99) J J (lb J) ?_;refine S3 ?_;refine aL (fun b1=> ?_);refine N3 ?_;refine a9 (JR J J (J9)) ?_;refine S1 ?_;refine aL (fun b2=> ?_);refine N7 ?_;refine Jy J J (yx J J J J J) J (lb J) (fun b3=> ?_);refine N1 ?_;refine qN (k:=0) (X:= {v:Int//v∈ [(3:Int),6,6,12,50]}) (v:=fun x=> .int .i64 x.1) (r':=fun _=>srcR b A n c (K+1)) YU rfl rfl rfl Dc rfl (fun w1 hs=>E3 (zs:=zs) _ 5 5 [3,6,6,12,50] (jfP [3,6,6,12,50] (k:=3) rfl rfl w1 hs) Dc Dc (fun p hp e=>by injection hp with hp;subst hp;exact hs.apart 0 3 _ _ Dc rfl rfl b rfl e.symm) (hB.ovx hs.over hne) hne (hs.all 0 _ rfl).1 hn Om) ?_
 rintro⟨m,hm⟩
 refine n9 ?_
 try dsimp only
 have hm0:0≤m∧m≤50:=by simp only [jjw,jj8,or_false] at hm;omega
 refine S8 ?_;refine qN (k:=0) (X:= {v:Int//0≤v∧v<2}) (v:=fun x=> .int .i64 x.1) (r':=fun _=>srcR b A n c (K+2)) qk J J J Dc J (fun w1 hs=>vY (zs:=zs) 2 Dc Dc (hB.ovx hs.over hne) hne (hs.all 0 _ J).1 hn Om) ?_
 rintro⟨v1,hv1⟩
 refine n9 ?_
 try dsimp only
 refine S3 ?_;refine kt (T:=74) (s:=1) ?_;refine t9 ?_;refine Vz ?_;refine t9 ?_;refine S1 ?_;refine JX (X:=Nat×(Option Addr×Nat)×List Pc) (fun x=>x.2.2.length+x.1≤2∧pcOk x.2.2) (fun x=>x.1) (fun x=> [(9, .int .i64 (x.1:Int))]) (kK [0,2,6,7,8]) (fun x=> [srcR b A n c (K+2+60*x.2.2.length), .cel b1 26 [.slice none 0 0], .cel b2 26 [.slice x.2.1.1 x.2.2.length x.2.1.2], .cel b3 2 [.int .i64 3, .int .i64 6, .int .i64 6, .int .i64 12, .int .i64 50],J3 (Bs.N ⟨w,[b]⟩) 74 1 x.2.2.length (x.2.2.map Pc.val) x.2.1,vF x.2.2]) ((1+v1).toNat,(none,0),[]) (⟨by simp only [jjK];omega,fun e he=>by cases he⟩) ⟨vi Om,sz⟩ (fun _ h=>h) ?_
 intro⟨j,⟨rA,rc⟩,l⟩ hx L hL1
 refine v9 ?_;refine r9 ?_
 obtain ⟨hj,hpc⟩ :l.length+j≤2∧pcOk l:=hx
 refine S6 ?_;refine cZ (fun c1=> ?_) (fun c1=> ?_)
 ·refine S6 ?_;refine a9 (JR J J (VZ)) ?_;refine S1 ?_;refine aL (fun b4=> ?_);refine N9 ?_;refine qN (k:=0) (X:= {v:Int//0≤v∧v<6}) (v:=fun x=> .int .i64 x.1) (r':=fun _=>srcR b A n c (K+2+60*l.length+1)) qk J J J Dc J (fun w1 hs=>vY (zs:=zs) 6 Dc Dc (hB.ovx hs.over hne) hne (hs.all 0 _ J).1 hn Om) ?_
  rintro⟨v2,hv2⟩
  refine n9 ?_
  try dsimp only
  refine S3 ?_;refine kt (T:=28) (s:=2) ?_;refine t9 ?_;refine S1 ?_;refine JX (X:=Nat×List Pn×Option Addr×Nat) (fun y=> (y.2.1.length+y.1≤6∧0<y.2.1.length+y.1)∧∀p∈y.2.1,E7 50 p) (fun y=>y.1) (fun y=> [(11, .int .i64 (y.1:Int))]) (kK [0,2,6,7,8,9,20,21,24,10,25,26,27,28]) (fun y=> [srcR b A n c (K+2+60*l.length+1+8*y.2.1.length), .cel b1 26 [.slice none 0 0], .cel b2 26 [.slice rA l.length rc], .cel b3 2 [.int .i64 3, .int .i64 6, .int .i64 6, .int .i64 12, .int .i64 50],J3 (Bs.N ⟨w,[b]⟩) 74 1 l.length (l.map Pc.val) (rA,rc),vF l, .cel b4 74 [.slice y.2.2.1 y.2.1.length y.2.2.2],J3 (Bs.N ⟨w,[b]⟩) 28 2 y.2.1.length (y.2.1.flatMap Jr) y.2.2]) ((1+v2).toNat,[],none,0) (⟨⟨by simp only [jjK];omega,by simp only [jjK];omega⟩,fun p hp=>absurd hp (by simp)⟩) ⟨vi Om,sz⟩ (fun _ h=>h) ?_
  intro⟨i,xs,pA,pc⟩ hy L hL2
  refine v9 ?_;refine r9 ?_
  obtain ⟨⟨h6,h0⟩,hbd⟩ : (xs.length+i≤6∧0<xs.length+i)∧∀p∈xs,E7 50 p:=hy
  refine S6 ?_;refine cZ (fun c2=> ?_) (fun c2=> ?_)
  ·refine S5 ?_;refine Qv 6 [0] ?_;refine dV 0 [1] ?_;refine dK 1 ?_;refine dV 2 [4] ?_;refine dV 3 [4] ?_;refine J7 (i:=4) J Dc Kr J ?_;refine qN (k:=0) (X:= {p:Pn//E7 m p}) (v:=fun x=>pV x.1) (r':=fun _=>srcR b A n c (K+2+60*l.length+1+8*xs.length+8)) Mm J J J Dc J (fun w1 hs=>jco (zs:=zs) m hm0.1 Om (hB.ovx hs.over hne) hne (hs.all 0 _ J).1 hn Om) ?_
   rintro⟨q,hq⟩
   refine n9 ?_
   try dsimp only
   refine JN (uw [0] J) ?_;refine J7 (i:=5) J Dc Kr J ?_;refine Jy J J (qT J) J (lb J) (fun b5=> ?_);refine n9 ?_;refine JN (uw [0] J) ?_;refine KV J Kr J ?_;refine JY (k:=7) J jD jI Dc J Dc J J J (fun w' hs=>Qb hs (k:=8) J J) (by simp [Value.oneCell']) (by unfold maxLen;omega) Om (jjm _) (fun r1=> ?_);refine n9 ?_;refine Qv 9 [6] ?_;refine dK 7 ?_;refine J7 (i:=8) J Dc Kr J ?_;refine S1 ?_;refine JN (uw [6] J) ?_;refine JJ Kr ?_;refine S7 ?_
   exact Jq hL2 ((i- 1,xs++ [q],r1)) (⟨⟨by simp only [jjk,jjr,jjK];omega,by simp only [jjk,jjr,jjK];omega⟩,fun p hp=> (jjz.1 hp).elim (hbd p) (fun h=>by rw [jjp.1 h];obtain ⟨⟨u1,u2⟩,u3,u4⟩ :=hq;exact⟨⟨by omega,by omega⟩,by omega,by omega⟩)⟩) (by simp only;omega) ⟨vi Om,sz⟩ (fun _ h=>h.upto ⟨by rw [jjk];rfl,rfl,rfl,rfl,rfl,rfl,by rw [jjk];rfl,by rw [jjk,jjv];rfl,trivial⟩)
  ·have hi0:i=0:=Om
   refine MA 0 (K2:=K+2+60* (l.length+1)) J Om ?_;refine t9 ?_;refine S10 ?_;refine Jy J J (qz J) J (lb J) (fun b6=> ?_);refine N1 ?_;refine JY (k:=4) J jJ Jw Dc J Dc J J J (fun w' hs=>Qb hs (k:=8) J J) (by simp [Value.oneCell']) (by unfold maxLen;omega) Om (jjm _) (fun r2=> ?_);refine N4 ?_;refine zR 7 J J (fun clo chi=> ?_);refine t9 ?_;refine wt 5 7 J J Dc J ?_;refine t9 ?_;refine S7 ?_
   exact Jq hL1 ((j- 1,r2,l++ [⟨xs,pA,pc,clo,chi⟩])) (⟨by simp only [jjk,jjr,jjK];omega,hpc.push ⟨⟨by show 0<xs.length;omega,by show xs.length≤6;omega⟩,hbd⟩⟩) (by simp only;omega) ⟨vi Om,sz⟩ (fun _ h=>h.upto ⟨by rw [jjk];rfl,J,by rw [jjk];rfl,J,by rw [jjk,jjQ];rfl,(vo _ _).symm,trivial⟩)
 ·refine S12 ?_;refine jK J (J8 (k:=1) J jv J J) ?_
  intro w' hs
  exact⟨(⟨l.map (·.xs),hpc.drw Om⟩,(rA,rc),w.heap.size,w'.heap.size),by simp only [jjB],yR hs,jik (srcR.more (hs.all 0 _ rfl).1 Om) hlt (by simp only [jjB];exact TI hs (ks:=0) (kr:=4) (kp:=5) rfl rfl rfl rfl Dc Dc Dc rfl (fun e he=>by have:= (hpc e he).1.2;omega)) rfl rfl⟩
end
theorem Ow (h:Dp n rs) (hm:n≤m) :Dp m rs:=⟨jkh h.1 hm,h.2⟩
theorem jhb {c K K' m':Nat} {x:DX m} (h: (xR b A n c K x).P w) (hK:K≤K') (hm:m≤m') : (xR b A n c K' (⟨⟨x.1.1,Ow x.1.2 hm⟩,x.2⟩ :DX m')).P w:=by
 obtain ⟨h1,h2⟩ :=h
 refine⟨fun r hr=> ?_,?_⟩
 ·simp only [jjw,jj8,or_false] at hr
  rcases hr with rfl | rfl
  ·exact⟨srcR.more (h1 (srcR b A n c K) (by simp)).1 hK,rfl⟩
  ·exact h1 (Ik x) (by simp)
 ·refine jjX.2 ⟨fun r hr=> ?_,jkG _ _⟩
  have e:=jjp.1 hr
  subst e
  exact(jjX.1 h2).1 (Ik x) (jjp.2 rfl)
theorem jfb {c K K' m' q:Nat} {x:DX m} (hm:m≤m') (h: (xR b A n c K' (⟨⟨x.1.1,Ow x.1.2 hm⟩,x.2⟩ :DX m')).F q) : (xR b A n c K x).F q:=by
 obtain ⟨r,hr,hq⟩ :=h
 simp only [jjw,jj8,or_false] at hr
 rcases hr with rfl | rfl
 ·exact⟨srcR b A n c K,by simp,hq⟩
 ·exact⟨Ik x,by simp,hq⟩
theorem jiV {px py pw ph q:Int} (h1:0≤px∧px<9) (h2:0≤py∧py<9) (h3:0≤pw∧pw<8) (h4:0≤ph∧ph<8) (h5:0≤q∧q<4) :
  ∀p∈ [(px,py),(px+ (1+pw),py),(px+ (1+pw) +q,py+ (1+ph)),(px,py+ (1+ph))],E7 50 p:=fun p hp=>by
 simp only [jjw,jj8,or_false] at hp
 rcases hp with rfl | rfl | rfl | rfl<;>exact⟨⟨by omega,by omega⟩,by omega,by omega⟩
theorem jic {px py pw ph:Int} (h1:0≤px∧px<9) (h2:0≤py∧py<9) (h3:0≤pw∧pw<8) (h4:0≤ph∧ph<8) :
  ∀p∈ [(px,py),(px+ (1+pw),py),(px+ (1+pw),py+ (1+ph)),(px,py+ (1+ph))],E7 50 p:=fun p hp=>by
 simp only [jjw,jj8,or_false] at hp
 rcases hp with rfl | rfl | rfl | rfl<;>exact⟨⟨by omega,by omega⟩,by omega,by omega⟩
section
variable {b n c K:Nat} {A:Option Addr} {zs:List Int} {w:World}
theorem Tc (hB:Byts w A n zs) (hne:0<n→∀p,A=some p→p.block≠b) (hP: (srcR b A n c K).P w) (hn:n≤1048576) (hK:K≤500) :
  Calls Tryz.prog 44 #[.pointer (some ⟨b,0,none⟩)] w fun e w'=>∃x:DX 3,e= .returned (qr x.2.1.1 x.1.1.length x.2.1.2)∧Wrs (srcR b A n c K).F w w'∧(xR b A n c (K+300) x).P w'∧(∀q,(xR b A n c (K+300) x).F q→(srcR b A n c K).F q∨w.heap.size≤q)∧(xR b A n c (K+300) x).B=0:=by
 have hlt:= (srcR b A n c K).low w hP b rfl
 refine Vy (m:=98) ([b]) (srcR b A n c K) (hP) (fun q hq=>jjp.2 hq) J (Tryz.func44) J J (lb J) ?_;refine S3 ?_;refine aL (fun b1=> ?_);refine N6 ?_;refine qN (k:=0) (X:=Bool) (v:=fun x=> .bool x) (r':=fun _=>srcR b A n c (K+1)) Ub J J J Dc J (fun w1 hs=>C3 (zs:=zs) 3 Dc Dc (hB.ovx hs.over hne) hne (hs.all 0 _ J).1 hn Om) ?_
 rintro ob
 refine N1 ?_;refine cZ (fun c1=> ?_) (fun c1=> ?_)
 ·refine S4 ?_;refine qN (k:=0) (X:=DX 2) (v:=fun x=>qr x.2.1.1 x.1.1.length x.2.1.2) (r':=fun x=>xR b A n c (K+1+200) x) Mo J J J Dc J (fun w1 hs=>SX (zs:=zs) (hB.ovx hs.over hne) hne (hs.all 0 _ J).1 hn Om) ?_
  rintro x0
  refine N5 ?_;refine jK J (J8 (k:=1) J jv J J) ?_
  intro w' hs
  exact⟨⟨⟨x0.1.1,Ow x0.1.2 Dc⟩,x0.2⟩,rfl,yR hs,jhb (hs.all 0 _ rfl).1 Om Dc,fun q hq=> ((hs.all 0 _ rfl).2.1 q (jfb Dc hq)).elim (fun h=> .inr h) (fun h=> .inl (jjp.1 h)),rfl⟩
 ·refine S4 ?_;refine a9 (JR J J (J9)) ?_;refine S1 ?_;refine aL (fun b2=> ?_);refine N8 ?_;refine qN (k:=0) (X:= {v:Int//0≤v∧v<3}) (v:=fun x=> .int .i64 x.1) (r':=fun _=>srcR b A n c (K+2)) qk J J J Dc J (fun w1 hs=>vY (zs:=zs) 3 Dc Dc (hB.ovx hs.over hne) hne (hs.all 0 _ J).1 hn Om) ?_
  rintro⟨v1,hv1⟩
  refine n9 ?_
  try dsimp only
  refine S3 ?_;refine kt (T:=74) (s:=1) ?_;refine t9 ?_;refine Vz ?_;refine t9 ?_;refine S1 ?_;refine JX (X:=Nat×(Option Addr×Nat)×List Pc) (fun x=>x.2.2.length+x.1≤3∧pcOk x.2.2) (fun x=>x.1) (fun x=> [(4, .int .i64 (x.1:Int))]) (kK [0,2,3]) (fun x=> [srcR b A n c (K+2+60*x.2.2.length), .cel b1 26 [.slice none 0 0], .cel b2 26 [.slice x.2.1.1 x.2.2.length x.2.1.2],J3 (Bs.N ⟨w,[b]⟩) 74 1 x.2.2.length (x.2.2.map Pc.val) x.2.1,vF x.2.2]) ((1+v1).toNat,(none,0),[]) (⟨by simp only [jjK];omega,fun e he=>by cases he⟩) ⟨vi Om,sz⟩ (fun _ h=>h) ?_
  intro⟨j,⟨rA,rc⟩,l⟩ hx L hL1
  refine v9 ?_;refine r9 ?_
  obtain ⟨hj,hpc⟩ :l.length+j≤3∧pcOk l:=hx
  obtain ⟨KL,hL⟩ :∃KL,KL=K+2+60*l.length:=⟨_,rfl⟩
  rw [←hL]
  refine S6 ?_;refine cZ (fun c2=> ?_) (fun c2=> ?_)
  ·refine S8 ?_;refine qN (k:=0) (X:= {v:Int//0≤v∧v<9}) (v:=fun x=> .int .i64 x.1) (r':=fun _=>srcR b A n c (KL+1)) qk J J J Dc J (fun w1 hs=>vY (zs:=zs) 9 Dc Dc (hB.ovx hs.over hne) hne (hs.all 0 _ J).1 hn Om) ?_
   rintro⟨px,hpx⟩
   refine n9 ?_
   try dsimp only
   refine S6 ?_;refine qN (k:=0) (X:= {v:Int//0≤v∧v<9}) (v:=fun x=> .int .i64 x.1) (r':=fun _=>srcR b A n c (KL+2)) qk J J J Dc J (fun w1 hs=>vY (zs:=zs) 9 Dc Dc (hB.ovx hs.over hne) hne (hs.all 0 _ J).1 hn Om) ?_
   rintro⟨py,hpy⟩
   refine n9 ?_
   try dsimp only
   refine S6 ?_;refine qN (k:=0) (X:= {v:Int//0≤v∧v<8}) (v:=fun x=> .int .i64 x.1) (r':=fun _=>srcR b A n c (KL+3)) qk J J J Dc J (fun w1 hs=>vY (zs:=zs) 8 Dc Dc (hB.ovx hs.over hne) hne (hs.all 0 _ J).1 hn Om) ?_
   rintro⟨pw,hpw⟩
   refine n9 ?_
   try dsimp only
   refine S7 ?_;refine qN (k:=0) (X:= {v:Int//0≤v∧v<8}) (v:=fun x=> .int .i64 x.1) (r':=fun _=>srcR b A n c (KL+4)) qk J J J Dc J (fun w1 hs=>vY (zs:=zs) 8 Dc Dc (hB.ovx hs.over hne) hne (hs.all 0 _ J).1 hn Om) ?_
   rintro⟨ph,hph⟩
   refine n9 ?_
   try dsimp only
   refine S7 ?_;refine a9 (JR J J (q8 J J)) ?_;refine S4 ?_;refine a9 (JR J J (q8 J J)) ?_;refine S6 ?_;refine a9 (JR J J (q8 J J)) ?_;refine S4 ?_;refine a9 (JR J J (q8 J J)) ?_;refine S1 ?_;refine Jy J J (vD J J J J) J (lb J) (fun b3=> ?_);refine n9 ?_;refine a9 (JR J J (vm J)) ?_;refine S1 ?_;refine aL (fun b4=> ?_);refine N3 ?_;refine UC (X:=Pc) (fun x=>x.xs.length=4∧∀p∈x.xs,E7 50 p) (fun x=> []) (kK [0,2,3,4,18,19,22,23,5,24,25,6,26,27,28,7,29,30,31,8,32,33,34,35,36,37,38,39,40,41,42,43,44,45,46,47,48,49,50,51,52,53,9]) (fun x=> [srcR b A n c (KL+6), .cel b1 26 [.slice none 0 0], .cel b2 26 [.slice rA l.length rc],J3 (Bs.N ⟨w,[b]⟩) 74 1 l.length (l.map Pc.val) (rA,rc),vF l,x.res, .cel b4 74 [x.val]]) (fun L h_2=> ?_) ?_
   ·refine S4 ?_;refine qN (k:=0) (X:= {v:Int//0≤v∧v<4}) (v:=fun x=> .int .i64 x.1) (r':=fun _=>srcR b A n c (KL+5)) qk J J J Dc J (fun w1 hs=>vY (zs:=zs) 4 Dc Dc (hB.ovx hs.over hne) hne (hs.all 0 _ J).1 hn Om) ?_
    rintro⟨pk,hpk⟩
    refine n9 ?_
    try dsimp only
    refine S7 ?_;refine cZ (fun c3=> ?_) (fun c3=> ?_)
    ·refine S1 ?_;refine Qv 14 [0,5] ?_;refine d9 0 J [] (uw [0,5] J) (jg J J JA) ?_;refine d9 1 J [] (uw [0,5] J) (jo J J JH (qi (k:=6) J J)) ?_;refine d9 2 J [] (uw [0,5] J) q9 ?_;refine d9 3 J [] (uw [0,5] J) q9 ?_;refine d9 4 J [] (uw [0,5] J) p9 ?_;refine d9 5 J [] (uw [0,5] J) q9 ?_;refine d9 8 J [] (uw [0,5] J) q9 ?_;refine d9 9 J [] (uw [0,5] J) q9 ?_;refine d9 10 J [] (uw [0,5] J) p9 ?_;refine J7 (i:=6) J Dc Kr J ?_;refine qN (k:=0) (X:= {v:Int//0≤v∧v<4}) (v:=fun x=> .int .i64 x.1) (r':=fun _=>srcR b A n c (KL+6)) qk J J J Dc J (fun w1 hs=>vY (zs:=zs) 4 Dc Dc (hB.ovx hs.over hne) hne (hs.all 0 _ J).1 hn Om) ?_
     rintro⟨pq,hpq⟩
     refine n9 ?_
     try dsimp only
     refine JN (uw [0,5] J) ?_;refine d9 7 J [] (uw [0,5] J) p9 ?_;refine d9 11 J [] (uw [0,5] J) (JR J J (q8 J J)) ?_;refine d9 12 J [] (uw [0,5] J) (jV (j:=2) J J J jD Om) ?_;refine J7 (i:=13) J Dc Kr J ?_;refine Bl (k:=5) J J J J (J) (by rfl) jI.szx J ?_;refine t9 ?_;refine JN (uw [0,5] J) ?_;refine JJ Kr ?_;refine Nu 5 4 [(px,py),(px+ (1+pw),py),(px+ (1+pw) +pq,py+ (1+ph)),(px,py+ (1+ph))] J ?_;refine t9 ?_;refine S2 ?_
     exact ka h_2 (⟨[(px,py),(px+ (1+pw),py),(px+ (1+pw) +pq,py+ (1+ph)),(px,py+ (1+ph))],some ⟨b3,0,none⟩,4,b3,b3+1⟩) (⟨J,jiV hpx hpy hpw hph hpq⟩) ⟨J,sz⟩ (fun _ h=> (h.picks [0,1,2,3,4,5,6] Dc).upto ⟨J,sz⟩)
    ·refine S5 ?_;refine cZ (fun c4=> ?_) (fun c4=> ?_)
     ·refine S1 ?_;refine JS 18 ?_;refine dK 0 ?_;refine dK 1 ?_;refine dZ 2 J (jV (j:=3) J J J jD Om) ?_;refine dK 3 ?_;refine dK 4 ?_;refine dK 5 ?_;refine dZ 6 J (jV (j:=2) J J J jD Om) ?_;refine dK 7 ?_;refine dK 8 ?_;refine dK 9 ?_;refine dZ 10 J (jV (j:=1) J J J jD Om) ?_;refine dK 11 ?_;refine dK 12 ?_;refine dK 13 ?_;refine dZ 14 J (jV (j:=0) J J J jD Om) ?_;refine dK 15 ?_;refine J7 (i:=16) J Dc Kr J ?_;refine Jy J J (vD J J J J) J (lb J) (fun b5=> ?_);refine n9 ?_;refine JN (u9 J) ?_;refine dK 17 ?_;refine KV J Kr J ?_;refine S1 ?_;refine yB Kr ?_;refine MA 0 (K2:=KL+6) J Om ?_;refine t9 ?_;refine Nu 7 4 [(px,py+ (1+ph)),(px+ (1+pw),py+ (1+ph)),(px+ (1+pw),py),(px,py)] J ?_;refine t9 ?_;refine S2 ?_
      exact ka h_2 (⟨[(px,py+ (1+ph)),(px+ (1+pw),py+ (1+ph)),(px+ (1+pw),py),(px,py)],some ⟨b5,0,none⟩,4,b5,b5+1⟩) (⟨J,fun p hp=>jic hpx hpy hpw hph p (by simpa [or_comm,or_left_comm,or_assoc] using hp)⟩) ⟨J,sz⟩ (fun _ h=> (h.picks [0,1,2,3,4,7,6] Dc).upto ⟨J,sz⟩)
     ·refine MA 0 (K2:=KL+6) J Om ?_;refine t9 ?_;refine Nu 5 4 [(px,py),(px+ (1+pw),py),(px+ (1+pw),py+ (1+ph)),(px,py+ (1+ph))] J ?_;refine t9 ?_;refine S3 ?_
      exact ka h_2 (⟨[(px,py),(px+ (1+pw),py),(px+ (1+pw),py+ (1+ph)),(px,py+ (1+ph))],some ⟨b3,0,none⟩,4,b3,b3+1⟩) (⟨J,jic hpx hpy hpw hph⟩) ⟨J,sz⟩ (fun _ h=> (h.picks [0,1,2,3,4,5,6] Dc).upto ⟨J,sz⟩)
   ·rintro⟨xs,pA,pc,plo,phi⟩ hxp
    refine v9 ?_;refine r9 ?_
    obtain ⟨hx4,hbd⟩ :xs.length=4∧∀p∈xs,E7 50 p:=hxp
    refine S5 ?_;refine Jy J J (qz J) J (lb J) (fun b6=> ?_);refine N1 ?_;refine JY (k:=3) J jJ Jw Dc J Dc J J J (fun w' hs=>Qb hs (k:=7) J J) (by simp [Value.oneCell',Pc.val]) (by unfold maxLen;omega) Om (jjm _) (fun r1=> ?_);refine N4 ?_;refine MA 0 (K2:=K+2+60* (l.length+1)) J Om ?_;refine t9 ?_;refine wt 4 5 J J Dc J ?_;refine t9 ?_;refine S7 ?_
    exact Jq hL1 ((j- 1,r1,l++ [⟨xs,pA,pc,plo,phi⟩])) (⟨by simp only [jjk,jjr,jjK];omega,hpc.push ⟨⟨by show 0<xs.length;omega,by show xs.length≤6;omega⟩,hbd⟩⟩) (by simp only;omega) ⟨vi Om,sz⟩ (fun _ h=>h.upto ⟨by rw [jjk];rfl,J,by rw [jjk];rfl,by rw [jjk,jjQ];rfl,(vo _ _).symm,trivial⟩)
  ·refine S12 ?_;refine jK J (J8 (k:=1) J jv J J) ?_
   intro w' hs
   exact⟨(⟨l.map (·.xs),hpc.drw Om⟩,(rA,rc),w.heap.size,w'.heap.size),by simp only [jjB],yR hs,jik (srcR.more (hs.all 0 _ rfl).1 Om) hlt (by simp only [jjB];exact TI hs (ks:=0) (kr:=3) (kp:=4) rfl rfl rfl rfl Dc Dc Dc rfl (fun e he=>by have:= (hpc e he).1.2;omega)) rfl rfl⟩
theorem Xz (hB:Byts w A n zs) (hn:n≤1048576) :
  Calls Tryz.prog 8 #[.slice A n c] w fun e w'=>∃x:DX 3×DPt,e= .returned (.tuple #[qr x.1.2.1.1 x.1.1.1.length x.1.2.1.2,pV x.2.1])∧Over w w'∧(Ik x.1).P w'∧(∀q,(Ik x.1).F q→w.heap.size≤q)∧(Ik x.1).B=0∧True:=by
 refine j6 (m:=21) (Tryz.func8) J J (lb J) ?_;refine S3 ?_;refine aL (fun b1=> ?_);refine N1 ?_;refine aL (fun b2=> ?_);refine N5 ?_;refine JU Ml (v:=fun g:Nat=> .pointer (some ⟨g,0,none⟩)) (r:=fun g=>srcR g A n c 0) (H:=fun _=>True) J J J (lb J) (fun w1 hs=>SW A n c w1) ?_
 rintro g-
 refine N2 ?_;refine kL (fun w1 hs=> ((hs.all 2 _ rfl).2.1 g rfl).elim id (fun h=>by cases h)) ?_
 intro hg
 have hne:=jiW hB (g:=g) hg
 refine S4 ?_;refine qN (k:=2) (X:=DX 3) (v:=fun x=>qr x.2.1.1 x.1.1.length x.2.1.2) (r':=fun x=>xR g A n c (0+300) x) Mt J J J Dc J (fun w1 hs=>Tc (zs:=zs) (hB.over hs.fin) hne (hs.all 2 _ J).1 hn Dc) ?_
 rintro x0
 refine n9 ?_;refine jgY 2 J ?_;refine t9 ?_;refine S1 ?_;refine aL (fun b3=> ?_);refine N7 ?_;refine qN (k:=2) (X:= {v:Int//0≤v∧v<20}) (v:=fun x=> .int .i64 x.1) (r':=fun _=>srcR g A n c 301) qk J J J Dc J (fun w1 hs=>vY (zs:=zs) 20 Dc Dc (hB.over hs.fin) hne (hs.all 2 _ J).1 hn Dc) ?_
 rintro⟨v1,hv1⟩
 refine n9 ?_
 try dsimp only
 refine S1 ?_;refine a9 (JR J J (Dj J)) ?_;refine S1 ?_;refine aL (fun b4=> ?_);refine N7 ?_;refine qN (k:=2) (X:= {v:Int//0≤v∧v<20}) (v:=fun x=> .int .i64 x.1) (r':=fun _=>srcR g A n c 302) qk J J J Dc J (fun w1 hs=>vY (zs:=zs) 20 Dc Dc (hB.over hs.fin) hne (hs.all 2 _ J).1 hn Dc) ?_
 rintro⟨v2,hv2⟩
 refine n9 ?_
 try dsimp only
 refine S3 ?_;refine O9 (k:=5) J J J J (J) (by rfl) kY.szx J ?_;refine N3 ?_;refine Qv 4 [0,1] ?_;refine d9 0 J [] (uw [0,1] J) (jl J J jv J (jR (k:=4) J)) ?_;refine d9 1 J [] (uw [0,1] J) (jl J J jk J (jR (k:=5) J)) ?_;refine J7 (i:=2) J Dc Kr J ?_;refine S1 ?_;refine JN (uw [0,1] J) ?_;refine J7 (i:=3) J Dc Kr J ?_;refine S1 ?_;refine JN (uw [0,1] J) ?_;refine JJ Kr ?_;refine S2 ?_;refine qh J (J8 (k:=0) J jv J J) (J8 (k:=1) J jk J J) ?_
 intro w' hs
 exact⟨(x0,⟨(v1- 2,v2- 2),⟨by show-50≤v1- 2;omega,by show v1- 2≤50;omega⟩,by show-50≤v2- 2;omega,by show v2- 2≤50;omega⟩),rfl,hs.fin,(hs.all 3 _ rfl).1,fun q hq=> ((hs.all 3 _ rfl).2.1 q hq).elim id (fun h=>by cases h),sz⟩
end
end Go.Proofs.YtbahojdbmmjkcaaGreat
