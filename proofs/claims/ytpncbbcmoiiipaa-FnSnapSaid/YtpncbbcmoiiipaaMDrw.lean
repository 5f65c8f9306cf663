import Derived.Test.YtpncbbcmoiiipaaMOpen3
set_option linter.unusedVariables false
set_option linter.unusedSimpArgs false
namespace Go.Proofs.Ytpncbbcmoiiipaa
open Go Go.RowKit
set_option maxRecDepth 100000
set_option maxHeartbeats 4000000
def xa (n:Nat) (rs:List jx) :Prop:=rs.length≤n∧∀r∈rs,(0<r.length∧r.length≤6)∧∀p∈r,Gj 50 p
theorem YN {n:Nat} {rs:List jx} (h:xa n rs) :∀k,k≤rs.length→K0 rs k≤6*k
 | 0,_=>by simp [K0]
 | k+1,hk=>by
  have h1:=YN h k Om
  have h2:= (h.2 (rg rs k) (Ku (show k<rs.length by omega)▸DR _)).1.2
  simp only [K0]
  omega
theorem L6 {n:Nat} {rs:List jx} (h:xa n rs) (hn:n≤10) :Je rs=true:=by
 have h1:=h.1
 have h2:=YN h rs.length (DM _)
 have h3:=vv rs rs.length
 have h4:rs.all qd=true:=FG.2 fun r hr=>by
  obtain ⟨⟨a,b⟩,c⟩ :=h.2 r hr
  have e:vu r=true:=FG.2 fun p hp=>kE (MQ (c p hp) Dc)
  simp only [qd,wB,DL,decide_eq_true_eq]
  exact⟨⟨by omega,by omega⟩,e⟩
 rw [KW Om h4]
 exact decide_eq_true (by unfold jv;omega)
theorem Gq {n:Nat} {rs:List jx} (h:xa n rs) :Qq rs≤7*n:=by
 have h1:=h.1
 have h2:=YN h rs.length (DM _)
 unfold Qq
 omega
abbrev BF (n:Nat) := {rs:List jx//xa n rs}
abbrev BZ:= {p:Pn//Gj 50 p}
abbrev DX (n:Nat) :=BF n×(Option Addr×Nat)×Nat×Nat
abbrev zO {m:Nat} (x:DX m) :Res:=vy x.1.1.length x.1.1 x.2.2.1 x.2.2.2 x.2.1.1
abbrev wK (b:Nat) (A:Option Addr) (n c K:Nat) {m:Nat} (x:DX m) :Res:= .many [srcR b A n c K,zO x]
section
variable {n:Nat} {env:List (Nat×Value)} {w0:Bs} {Rs:List Res} {K:Act→World→Prop}
theorem Ub (k:Nat) {b m c K1 K2:Nat} {A:Option Addr} (hk:Rs[k]? =some (srcR b A m c K1)) (hK:K1≤K2) (h:At n env w0 (Rs.set k (srcR b A m c K2)) K) :At n env w0 Rs K:=fun a w hf hs=>
 h a w hf (hs.chg hk (fun hP=>srcR.more hP hK) (fun c hc=>hc) rfl)
theorem ZZ (k:Nat) {b T:Nat} (c:Nat) (xs:List (Int×Int)) (hk:Rs[k]? =some (.cel b T (xs.flatMap jI))) (h:At n env w0 (Rs.set k (Pc.res ⟨xs,some ⟨b,0,none⟩,c,b,b+1⟩)) K) :At n env w0 Rs K:=fun a w hf hs=>by
 have hh:=hs.cel hk
 refine h a w hf (hs.chg hk (fun hP=>My ⟨J,fun h0=>⟨b,0,T,_,J,DM _,Nat.lt_succ_self _,hh,fun j hj=> ?_⟩⟩ (JE hh)) (fun q hq=> ?_) J)
 ·have hf:=fun q hq=>wT xs j q hj hq
  have h0:=hf 0 Om
  have h1:=hf 1 Om
  rw [Vz hj] at h0 h1
  rw [Fo,List.getElem?_toArray,List.getElem?_toArray]
  exact⟨by simpa [jI] using h0,by simpa [jI] using h1⟩
 ·have hq':b≤q∧q<b+1:=hq
  show q=b
  omega
end
theorem Zq {w w':World} {b:Nat} {Rs:List Res} (hs:St ⟨w,[b]⟩ Rs w') {ks kr kp B T n:Nat} {r:Res} {l:List Pc} {x:Option Addr×Nat} (hk:Rs[ks]? =some r) (hF:r.F b) (hr:Rs[kr]? =some (qx B T 1 n (l.map Pc.val) x)) (hp:Rs[kp]? =some (vL l)) (hne:kr≠kp) (h1:ks≠kr) (h2:ks≠kp) (hl:l.length=n)
  (hm:∀e∈l,e.xs.length≤1099511627776) :OwnG w.heap.size w'.heap.size w' x.1 n (l.map (·.xs)) :=by
 have hrow:w'.ownsRow B T 1 (.slice x.1 n x.2) n (l.map Pc.val) := (hs.all kr _ hr).1
 have hX:=hs.all kp _ hp
 rcases hrow.2 with⟨_,e⟩ |⟨g,cap,cur,e,hb,hg,hcap,hmax,hsz,htk⟩
 ·subst e
  obtain rfl:l= [] :=Fd hl
  exact OwnG.nil _
 ·injection e with e1 e2 e3
  rw [e1]
  have hFg: (qx B T 1 n (l.map Pc.val) x).F g:=by show Value.ownBlock (.slice x.1 n x.2) =some g;rw [e1];rfl
  have hown:=XH (lo:=w.heap.size) (o:=0) hg (((hs.all kr _ hr).2.1 g hFg).elim id (fun h=>absurd hFg (hs.apart ks kr _ _ h1 hk hr g (DP.1 h▸hF)))) (fun j hj=> ?_) hX.1 (fun h=>hs.apart kr kp _ _ hne hr hp g hFg h) (fun q hq=> (hX.2.1 q hq).elim id (fun h=>absurd hq (hs.apart ks kp _ _ h2 hk hp q (DP.1 h▸hF)))) (fun e he=>by have:=hm e he;omega)
  ·rw [hl] at hown
   exact hown
  ·have hc:cur[j]? = (l.map Pc.val)[j]? :=by rw [←htk,List.getElem?_take,if_pos Om];simp
   rw [Fo,hc]
   simp [hj]
theorem O7 {w w':World} {b n c K K' m:Nat} {A:Option Addr} {x:DX m} (hP: (srcR b A n c K').P w') (hlt:b<w.heap.size) (hO:OwnG w.heap.size w'.heap.size w' x.2.1.1 x.1.1.length x.1.1) (h1:x.2.2.1=w.heap.size) (h2:x.2.2.2=w'.heap.size) :
  (wK b A n c K' x).P w'∧(∀q,(wK b A n c K' x).F q→(srcR b A n c K).F q∨w.heap.size≤q)∧(wK b A n c K' x).B=0:=by
 obtain ⟨y,⟨a,c2⟩,lo,hi⟩ :=x
 have h1:lo=w.heap.size:=h1
 have h2:hi=w'.heap.size:=h2
 subst h1 h2
 refine⟨Bd hP (L9 hO (DM _)) J J (fun q hq hq2=> ?_),fun q hq=> ?_,J⟩
 ·have hq:q=b:=hq
  have hq2:w.heap.size≤q∧q<w'.heap.size:=hq2
  omega
 ·obtain ⟨r,hr,hq⟩ :=hq
  simp only [DZ,Fp,or_false] at hr
  rcases hr with rfl | rfl
  ·exact .inl hq
  ·exact .inr hq.1
section
variable {b n c K:Nat} {A:Option Addr} {zs:List Int} {w:World}
def pcOk (l:List Pc) :Prop:=∀e∈l,(0<e.xs.length∧e.xs.length≤6)∧∀p∈e.xs,Gj 50 p
theorem pcOk.push {l:List Pc} (h:pcOk l) {e:Pc} (he: (0<e.xs.length∧e.xs.length≤6)∧∀p∈e.xs,Gj 50 p) :pcOk (l++ [e]) :=fun q hq=> (DV.1 hq).elim (h q) (fun h1=>by rw [DP.1 h1];exact he)
theorem pcOk.drw {l:List Pc} (h:pcOk l) {n:Nat} (hl:l.length≤n) :xa n (l.map (·.xs)) :=⟨by rw [Fc];exact hl,fun r hr=>by
 obtain ⟨e,he,rfl⟩ :=Fi.1 hr
 exact h e he⟩
theorem z8 (hB:Byts w A n zs) (hne:0<n→∀p,A=some p→p.block≠b) (hP: (srcR b A n c K).P w) (hn:n≤1048576) (hK:K≤1000) :
  Calls Try.prog 28 #[.pointer (some ⟨b,0,none⟩), .int .i64 2, .int .i64 6] w fun e w'=>∃x:DX 2,e= .returned (kP x.2.1.1 x.1.1.length x.2.1.2)∧Wrs (srcR b A n c K).F w w'∧(wK b A n c (K+200) x).P w'∧(∀q,(wK b A n c (K+200) x).F q→(srcR b A n c K).F q∨w.heap.size≤q)∧(wK b A n c (K+200) x).B=0:=by
 have hlt:= (srcR b A n c K).low w hP b rfl
 refine kI (m:=48) ([b]) (srcR b A n c K) (hP) (fun q hq=>DP.2 hq) J (Try.func28) J J (lb J) ?_;refine S3 ?_;refine aL (fun b1=> ?_);refine N3 ?_;refine a9 (JU J J (kb)) ?_;refine S1 ?_;refine aL (fun b2=> ?_);refine N7 ?_;refine JY J J (vo J J J J J) J (lb J) (fun b3=> ?_);refine N1 ?_;refine JT (k:=0) (X:= {v:Int//v∈ [(3:Int),6,6,12,50]}) (v:=fun x=> .int .i64 x.1) (r':=fun _=>srcR b A n c (K+1)) Va rfl rfl rfl Dc rfl (fun w1 hs=>Ge (zs:=zs) _ 5 5 [3,6,6,12,50] (Mt [3,6,6,12,50] (k:=3) rfl rfl w1 hs) Dc Dc (fun p hp e=>by injection hp with hp;subst hp;exact hs.apart 0 3 _ _ Dc rfl rfl b rfl e.symm) (hB.ovx hs.over hne) hne (hs.all 0 _ rfl).1 hn Om) ?_
 rintro⟨m,hm⟩
 refine n9 ?_
 try dsimp only
 have hm0:0≤m∧m≤50:=by simp only [DZ,Fp,or_false] at hm;omega
 refine S8 ?_;refine JT (k:=0) (X:= {v:Int//0≤v∧v<2}) (v:=fun x=> .int .i64 x.1) (r':=fun _=>srcR b A n c (K+2)) Js J J J Dc J (fun w1 hs=>QF (zs:=zs) 2 Dc Dc (hB.ovx hs.over hne) hne (hs.all 0 _ J).1 hn Om) ?_
 rintro⟨v1,hv1⟩
 refine n9 ?_
 try dsimp only
 refine S3 ?_;refine Ki (T:=38) (s:=1) ?_;refine t9 ?_;refine Wf ?_;refine t9 ?_;refine S1 ?_;refine JR (X:=Nat×(Option Addr×Nat)×List Pc) (fun x=>x.2.2.length+x.1≤2∧pcOk x.2.2) (fun x=>x.1) (fun x=> [(9, .int .i64 (x.1:Int))]) (kK [0,2,6,7,8]) (fun x=> [srcR b A n c (K+2+60*x.2.2.length), .cel b1 25 [.slice none 0 0], .cel b2 25 [.slice x.2.1.1 x.2.2.length x.2.1.2], .cel b3 2 [.int .i64 3, .int .i64 6, .int .i64 6, .int .i64 12, .int .i64 50],qx (Bs.N ⟨w,[b]⟩) 38 1 x.2.2.length (x.2.2.map Pc.val) x.2.1,vL x.2.2]) ((1+v1).toNat,(none,0),[]) (⟨by simp only [D8];omega,fun e he=>by cases he⟩) ⟨vi Om,sz⟩ (fun _ h=>h) ?_
 intro⟨j,⟨rA,rc⟩,l⟩ hx L hL1
 refine v9 ?_;refine r9 ?_
 obtain ⟨hj,hpc⟩ :l.length+j≤2∧pcOk l:=hx
 refine S6 ?_;refine cZ (fun c1=> ?_) (fun c1=> ?_)
 ·refine S6 ?_;refine a9 (JU J J (UE)) ?_;refine S1 ?_;refine aL (fun b4=> ?_);refine N9 ?_;refine JT (k:=0) (X:= {v:Int//0≤v∧v<6}) (v:=fun x=> .int .i64 x.1) (r':=fun _=>srcR b A n c (K+2+60*l.length+1)) Js J J J Dc J (fun w1 hs=>QF (zs:=zs) 6 Dc Dc (hB.ovx hs.over hne) hne (hs.all 0 _ J).1 hn Om) ?_
  rintro⟨v2,hv2⟩
  refine n9 ?_
  try dsimp only
  refine S3 ?_;refine Ki (T:=27) (s:=2) ?_;refine t9 ?_;refine S1 ?_;refine JR (X:=Nat×List Pn×Option Addr×Nat) (fun y=> (y.2.1.length+y.1≤6∧0<y.2.1.length+y.1)∧∀p∈y.2.1,Gj 50 p) (fun y=>y.1) (fun y=> [(11, .int .i64 (y.1:Int))]) (kK [0,2,6,7,8,9,20,21,24,10,25,26,27,28]) (fun y=> [srcR b A n c (K+2+60*l.length+1+8*y.2.1.length), .cel b1 25 [.slice none 0 0], .cel b2 25 [.slice rA l.length rc], .cel b3 2 [.int .i64 3, .int .i64 6, .int .i64 6, .int .i64 12, .int .i64 50],qx (Bs.N ⟨w,[b]⟩) 38 1 l.length (l.map Pc.val) (rA,rc),vL l, .cel b4 38 [.slice y.2.2.1 y.2.1.length y.2.2.2],qx (Bs.N ⟨w,[b]⟩) 27 2 y.2.1.length (y.2.1.flatMap jI) y.2.2]) ((1+v2).toNat,[],none,0) (⟨⟨by simp only [D8];omega,by simp only [D8];omega⟩,fun p hp=>absurd hp (by simp)⟩) ⟨vi Om,sz⟩ (fun _ h=>h) ?_
  intro⟨i,xs,pA,pc⟩ hy L hL2
  refine v9 ?_;refine r9 ?_
  obtain ⟨⟨h6,h0⟩,hbd⟩ : (xs.length+i≤6∧0<xs.length+i)∧∀p∈xs,Gj 50 p:=hy
  refine S6 ?_;refine cZ (fun c2=> ?_) (fun c2=> ?_)
  ·refine S5 ?_;refine Qn 6 [0] ?_;refine dV 0 [1] ?_;refine dK 1 ?_;refine dV 2 [4] ?_;refine dV 3 [4] ?_;refine Qs (i:=4) J Dc Kr J ?_;refine JT (k:=0) (X:= {p:Pn//Gj m p}) (v:=fun x=>pV x.1) (r':=fun _=>srcR b A n c (K+2+60*l.length+1+8*xs.length+8)) uU J J J Dc J (fun w1 hs=>Hz (zs:=zs) m hm0.1 Om (hB.ovx hs.over hne) hne (hs.all 0 _ J).1 hn Om) ?_
   rintro⟨q,hq⟩
   refine n9 ?_
   try dsimp only
   refine qo (uw [0] J) ?_;refine Qs (i:=5) J Dc Kr J ?_;refine JY J J (QL J) J (lb J) (fun b5=> ?_);refine n9 ?_;refine qo (uw [0] J) ?_;refine wJ J Kr J ?_;refine Qe (k:=7) J js jJ Dc J Dc J J J (fun w' hs=>Kl hs (k:=8) J J) (by simp [Value.oneCell']) (by unfold maxLen;omega) Om (DM _) (fun r1=> ?_);refine n9 ?_;refine Qn 9 [6] ?_;refine dK 7 ?_;refine Qs (i:=8) J Dc Kr J ?_;refine S1 ?_;refine qo (uw [6] J) ?_;refine JI Kr ?_;refine S7 ?_
   exact Jo hL2 ((i- 1,xs++ [q],r1)) (⟨⟨by simp only [DK,DT,D8];omega,by simp only [DK,DT,D8];omega⟩,fun p hp=> (DV.1 hp).elim (hbd p) (fun h=>by rw [DP.1 h];obtain ⟨⟨u1,u2⟩,u3,u4⟩ :=hq;exact⟨⟨by omega,by omega⟩,by omega,by omega⟩)⟩) (by simp only;omega) ⟨vi Om,sz⟩ (fun _ h=>h.upto ⟨by rw [DK];rfl,rfl,rfl,rfl,rfl,rfl,by rw [DK];rfl,by rw [DK,Fs];rfl,trivial⟩)
  ·have hi0:i=0:=Om
   refine Ub 0 (K2:=K+2+60* (l.length+1)) J Om ?_;refine t9 ?_;refine Dg ?_;refine JY J J (Qo J) J (lb J) (fun b6=> ?_);refine N1 ?_;refine Qe (k:=4) J Jl JD Dc J Dc J J J (fun w' hs=>Kl hs (k:=8) J J) (by simp [Value.oneCell']) (by unfold maxLen;omega) Om (DM _) (fun r2=> ?_);refine N4 ?_;refine He 7 J J (fun clo chi=> ?_);refine t9 ?_;refine Uc 5 7 J J Dc J ?_;refine t9 ?_;refine S7 ?_
   exact Jo hL1 ((j- 1,r2,l++ [⟨xs,pA,pc,clo,chi⟩])) (⟨by simp only [DK,DT,D8];omega,hpc.push ⟨⟨by show 0<xs.length;omega,by show xs.length≤6;omega⟩,hbd⟩⟩) (by simp only;omega) ⟨vi Om,sz⟩ (fun _ h=>h.upto ⟨by rw [DK];rfl,J,by rw [DK];rfl,J,by rw [DK,FC];rfl,(wc _ _).symm,trivial⟩)
 ·refine Di ?_;refine jG J (qO (k:=1) J jL J J) ?_
  intro w' hs
  exact⟨(⟨l.map (·.xs),hpc.drw Om⟩,(rA,rc),w.heap.size,w'.heap.size),by simp only [Fc],vt hs,O7 (srcR.more (hs.all 0 _ rfl).1 Om) hlt (by simp only [Fc];exact Zq hs (ks:=0) (kr:=4) (kp:=5) rfl rfl rfl rfl Dc Dc Dc rfl (fun e he=>by have:= (hpc e he).1.2;omega)) rfl rfl⟩
end
end Go.Proofs.Ytpncbbcmoiiipaa
