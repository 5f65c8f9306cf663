import Derived.Test.YtbahojdbmmjkcaaGreatMFit
import Derived.Test.YtbahojdbmmjkcaaGreatMCmbS
import Derived.Test.YtbahojdbmmjkcaaGreatMNums
set_option linter.unusedVariables false
set_option linter.unusedSimpArgs false
namespace Go.Proofs.YtbahojdbmmjkcaaGreat
open Go Go.RowKit
variable {how:Int} {p:Pn} {rs ss:List jO}
def bi (b:Bool) :Int:=if b=true then 1 else 0
theorem XG (b:Bool) : (bi b==1) =b:=by cases b<;>rfl
structure BoE (rs ss:List jO) :Prop where
 r1:Jp (kS rs ss 1) =true
 r2:Jp (kS rs ss 2) =true
 r3:Jp (kS rs ss 3) =true
 r4:Jp (kS ss rs 3) =true
 r5:Jp (kS rs ss 4) =true
 a1:XD (kS rs ss 1) =XD (kS rs ss 2) +XD (kS rs ss 3) +XD (kS ss rs 3)
 a2:XD (kS rs ss 4) =XD (kS rs ss 3) +XD (kS ss rs 3)
 n2:0≤XD (kS rs ss 2)
 n3:0≤XD (kS rs ss 3)
 n4:0≤XD (kS ss rs 3)
theorem RZ {T:List jO} (hr:Jp T=true) (h:OvT rs ss how T) :XD T=sm F6 (Qp rs ss how)∧0≤XD T:=by
 have e:XD T=sm F6 (jt T) :=by rw [XD,if_pos hr,OV]
 exact⟨by rw [e];exact VU _ h.perm,by rw [e];exact h.area⟩
theorem zY (hr:Jp rs=true) (hs:Jp ss=true) (hh:Zj how=true) (h:uY rs ss how=0) :CmOk rs ss∧wD rs ss=true∧WV rs ss=true∧Jp (kS rs ss how) =true∧OvT rs ss how (kS rs ss how) :=by
 obtain ⟨e1,e2⟩ :=jif (how:=how) hr hs hh
 rw [e2] at h
 obtain ⟨hf,hg,e3⟩ :=je2 h
 simp only [UY,jjl,decide_eq_true_eq] at hf
 have hcm:CmOk rs ss:=⟨hr,hs,hf.1⟩
 rw [e1,e3]
 exact⟨hcm,hf.2.1,hf.2.2,hg,ji6 hcm hf.2.1 hf.2.2 hg⟩
theorem jg0 (hr:Jp rs=true) (hs:Jp ss=true) (h1:uY rs ss 1=0) (h2:uY rs ss 2=0) (h3:uY rs ss 3=0) (h4:uY ss rs 3=0) (h5:uY rs ss 4=0) :BoE rs ss:=by
 obtain ⟨_,_,_,g1,t1⟩ :=zY hr hs rfl h1
 obtain ⟨_,_,_,g2,t2⟩ :=zY hr hs rfl h2
 obtain ⟨_,_,_,g3,t3⟩ :=zY hr hs rfl h3
 obtain ⟨_,_,_,g4,t4⟩ :=zY hs hr rfl h4
 obtain ⟨_,_,_,g5,t5⟩ :=zY hr hs rfl h5
 obtain ⟨x1,_⟩ :=RZ g1 t1
 obtain ⟨x2,y2⟩ :=RZ g2 t2
 obtain ⟨x3,y3⟩ :=RZ g3 t3
 obtain ⟨x4,y4⟩ :=RZ g4 t4
 obtain ⟨x5,_⟩ :=RZ g5 t5
 obtain ⟨f1,f2⟩ :=jbF (rs:=rs) (ss:=ss)
 exact⟨g1,g2,g3,g4,g5,by rw [x1,x2,x3,x4,f1],by rw [x5,x3,x4,f2],y2,y3,y4⟩
theorem Oa (rs:List jO) : -549755813888000≤XD rs∧XD rs≤549755813888000:=by
 unfold XD
 split
 ·rename_i hr
  obtain ⟨u1,u2⟩ :=Hr (jt rs) (GB hr)
  have:=YY hr
  constructor<;>omega
 ·omega
theorem Gz (hr:Jp rs=true) (hp:bd2 p) (ho:∀e∈jt rs,WW (lA e) (lB e) p=false) :HU rs p.1 p.2=bi (!(ve p (jt rs) ==0)) :=by
 have h: (Jp rs&&wW p.1 p.2) =true:=by rw [hr,Wu hp];rfl
 unfold HU
 rw [if_pos h,jeG ho,if_neg Dc,jbp]
 unfold bi
 by_cases hz:ve p (jt rs) =0
 ·rw [if_neg (fun k=>k hz),hz];rfl
 ·rw [if_pos hz,if_pos (by simpa using hz)]
theorem jcP (b:Bool) : (!(ix b==0)) =b:=by cases b<;>rfl
theorem ji0 (a b:Int) :Qg a b 1= (!(a==0) || !(b==0)) :=rfl
theorem ji1 (a b:Int) :Qg a b 2= (!(a==0) && !(b==0)) :=rfl
theorem ji2 (a b:Int) :Qg a b 3= (!(a==0) && !(!(b==0))) :=rfl
theorem jg2 (hr:Jp rs=true) (hs:Jp ss=true) (hj:Jp (rs++ss) =true) (hd:sgC (rs++ss) =0) (h1:uY rs ss 1=0) (h2:uY rs ss 2=0) (h3:uY rs ss 3=0) (hp:bd2 p) (hn:nrA (rs++ss) p (sgN (rs++ss) +1) =false) :
  ∃a b:Bool,HU rs p.1 p.2=bi a∧HU ss p.1 p.2=bi b∧HU (kS rs ss 1) p.1 p.2=bi (a || b)∧HU (kS rs ss 2) p.1 p.2=bi (a&&b)∧HU (kS rs ss 3) p.1 p.2=bi (a&& !b) :=by
 obtain ⟨hcm,_,_,g1,t1⟩ :=zY hr hs rfl h1
 obtain ⟨_,_,_,g2,t2⟩ :=zY hr hs rfl h2
 obtain ⟨_,_,_,g3,t3⟩ :=zY hr hs rfl h3
 obtain ⟨_,y2,y3⟩ :=PF hj
 have hok:zL (Mx (rs++ss)) (JO (rs++ss)) =true:=by
  rw [y3] at hd
  split at hd
  ·assumption
  ·cases hd
 cases hst:yN (Mx (rs++ss)) (JO (rs++ss)) with
 | none=>rw [zL,hst] at hok;cases hok
 | some x=>
  obtain ⟨S,q⟩ :=x
  have e2:sgN (rs++ss) =q:=by rw [y2];exact(wJ hst).2.1
  rw [e2] at hn
  rw [jgf hj] at hst
  have hf:∀e∈jt rs++jt ss,xT p q (lA e) (lB e) :=fun e he=>jhd Om Om (jdl hn e (by rw [Vk];exact he))
  obtain ⟨w1,o1,o0⟩ :=NR hcm hst t1 hf
  obtain ⟨w2,o2,_⟩ :=NR hcm hst t2 hf
  obtain ⟨w3,o3,_⟩ :=NR hcm hst t3 hf
  refine⟨!(ve p (jt rs) ==0),!(ve p (jt ss) ==0),Gz hr hp fun e he=>o0 e (jka _ he),Gz hs hp fun e he=>o0 e (jkw _ he),?_,?_,?_⟩
  ·rw [Gz g1 hp o1,w1,jcP,ji0]
  ·rw [Gz g2 hp o2,w2,jcP,ji1]
  ·rw [Gz g3 hp o3,w3,jcP,ji2]
theorem jhV (hr:Jp rs=true) :0≤sgN rs∧sgN rs≤401:=by
 obtain ⟨_,y2,_⟩ :=PF hr
 rw [y2]
 cases hst:yN (Mx rs) (JO rs) with
 | none=>rw [(xa hst).2.1];decide
 | some x=>
  obtain ⟨S,q⟩ :=x
  rw [(wJ hst).2.1]
  have:=EH 402 hst
  omega
end Go.Proofs.YtbahojdbmmjkcaaGreat
namespace Go.Proofs.YtbahojdbmmjkcaaGreat
open Go Go.RowKit
set_option maxRecDepth 100000
set_option maxHeartbeats 4000000
theorem Mb (a b p:Pn) (r:Int) (w:World) (ha:bd2 a) (hb:bd2 b) (hp:bd2 p) (hr:0≤r∧r≤262144) :
  Calls Tryz.prog 64 #[pV a,pV b,pV p, .int .i64 r] w fun e w'=>e= .returned (.bool (Ua a b p r))∧Over w w':=by
 refine j6 (m:=30) (Tryz.func64) J J (lb J) ?_;refine S3 ?_;refine aX (fun b1=> ?_);refine N1 ?_;refine aX (fun b2=> ?_);refine N1 ?_;refine aX (fun b3=> ?_);refine N5 ?_;refine a9 (jM uV J J (fun w1 hs=>UQ a.1 a.2 w1)) ?_;refine S1 ?_;refine WZ 11 (.bool true) J (by rw [(Wu ha)]) ?_;refine S3 ?_;refine o9 (jM uV J J (fun w1 hs=>UQ b.1 b.2 w1)) ?_;refine S2 ?_;refine WZ 15 (.bool true) J (by rw [(Wu hb)]) ?_;refine S3 ?_;refine o9 (jM uV J J (fun w1 hs=>UQ p.1 p.2 w1)) ?_;refine S2 ?_;refine WZ 19 (.bool true) J (by rw [(Wu hp)]) ?_;refine S3 ?_;refine o9 (jM yI J J (fun w1 hs=>Calls.still (uH r 0 262144 w1))) ?_;refine S2 ?_;refine WZ 23 (.bool true) J (by rw [(show ZX r 0 262144=true by simp only [ZX,jjl,decide_eq_true_eq];exact hr)]) ?_;refine S9 ?_;refine o9 (jM Mn J J (fun w1 hs=>jat a b p r w1 ha hb hp hr)) ?_;refine S4 ?_;refine jK J (.tmp J) ?_
 intro w' hs
 exact⟨rfl,hs.fin⟩
theorem NJ (A:Option Addr) (n c:Nat) (rs:List jO) (p:Pn) (d:Int) (w:World) (h:Rings w A n rs) (hr:Jp rs=true) (hp:bd2 p) (hd:0≤d∧d≤262144) :
  Calls Tryz.prog 17 #[qr A n c,pV p, .int .i64 d] w fun e w'=>e= .returned (.bool (nrA rs p d))∧Over w w':=by
 have hl:=h.1
 have hn4:=vx hr
 refine j6 (m:=44) (Tryz.func17) J J (lb J) ?_;refine S3 ?_;refine aX (fun b1=> ?_);refine N1 ?_;refine aX (fun b2=> ?_);refine N8 ?_;refine qv (X:=Nat) (fun k=>k≤n∧∀q,q<k→nrR (rg rs q) p d=false) (fun k=>n- k) (fun k=> [(7, .int .i64 (k:Int))]) (kK [2,3,4,6]) 0 (⟨jjo _,fun q hq=>absurd hq (Nat.not_lt_zero _)⟩) ⟨J,sz⟩ ?_
 intro k hk L hL1
 refine v9 ?_
 obtain ⟨hkn,hno⟩ :=hk
 refine S9 ?_;refine cZ (fun c1=> ?_) (fun c1=> ?_)
 ·have hlt:k<n:=Om
  obtain ⟨eb,eo,Ak,ck,rfl,hbB,hcell,hpts,hmax⟩ :=h.at_ hlt
  obtain ⟨r1,r2,r3⟩ :=WO (kE hr (show k<rs.length by omega))
  refine S11 ?_;refine a9 (jo J J JH (jdN hcell hbB)) ?_;refine S7 ?_;refine qv (X:=Nat) (fun j=>j≤(rg rs k).length∧∀q,q<j→Ua (pt (rg rs k) q) (pt (rg rs k) (nx (rg rs k) q)) p d=false) (fun j=> (rg rs k).length- j) (fun j=> [(9, .int .i64 (j:Int))]) (kK [2,3,4,6,7,10,11,12,13,14,17,18,19,20,21,22,8]) 0 (⟨jjo _,fun q hq=>absurd hq (Nat.not_lt_zero _)⟩) ⟨J,sz⟩ ?_
  intro j hj L hL2
  refine v9 ?_
  obtain ⟨hjn,hno2⟩ :=hj
  refine S8 ?_;refine cZ (fun c2=> ?_) (fun c2=> ?_)
  ·have hjl:j< (rg rs k).length:=Om
   have hnx:=xx (xs:=rg rs k) j Om
   obtain ⟨fb,fo,rfl,_⟩ :=hpts.2 Om
   have ba:=UH (jkj.1 r3 (pt (rg rs k) j) (Ed hjl))
   have bb:=UH (jkj.1 r3 (pt (rg rs k) (nx (rg rs k) j)) (Ed hnx))
   refine S6 ?_;refine JS 15 ?_;refine dK 0 ?_;refine dK 1 ?_;refine dK 2 ?_;refine dZ 3 J (jl J J jk J (wQ hpts hjl)) ?_;refine dK 4 ?_;refine dK 5 ?_;refine dK 6 ?_;refine dK 7 ?_;refine dK 8 ?_;refine dZ 9 J ((Xi J J J Om Om Om).as (congrArg _ (C2 J j))) ?_;refine dK 10 ?_;refine dZ 11 J (jl J J jk J (wQ hpts hnx)) ?_;refine dK 12 ?_;refine dK 13 ?_;refine dZ 14 J (jM xi J J (fun w1 hs=>Mb (pt (rg rs k) j) (pt (rg rs k) (nx (rg rs k) j)) p d w1 ba bb hp hd)) ?_;refine JJ Kr ?_;refine S1 ?_;refine cZ (fun c3=> ?_) (fun c3=> ?_)
   ·have hy:=jfI (show k<rs.length by omega) (jfJ hjl c3)
    refine S14 ?_;refine jK J (.tmp J) ?_
    intro w' hs
    exact⟨QF hy.symm,hs.fin⟩
   ·refine S8 ?_
    exact qf hL2 (j+1) (⟨by omega,fun q hq=>by by_cases e:q=j;exact e▸c3;exact hno2 q Om⟩) Om ⟨vi Om,sz⟩ (u9 rfl)
  ·have hr0:=jhA fun q hq=>hno2 q Om
   refine S11 ?_
   exact qf hL1 (k+1) (⟨by omega,fun q hq=>by by_cases e:q=k;exact e▸hr0;exact hno q Om⟩) Om ⟨vi Om,sz⟩ (u9 rfl)
 ·have hy:=jhz (p:=p) (d:=d) fun q hq=>hno q Om
  refine S10 ?_;refine jK J (.tmp J) ?_
  intro w' hs
  exact⟨QF hy.symm,hs.fin⟩
theorem Nums.ovx {w w':World} {b:Nat} {A:Option Addr} {n:Nat} {zs:List Int} (h:Nums w A n zs) (ho:Ovx ⟨w,[b]⟩ w') (hne:∀p,A=some p→p.block≠b) :Nums w' A n zs:=by
 refine⟨h.1,fun hn=> ?_⟩
 obtain ⟨b',o,rfl,hlt,hc⟩ :=h.2 hn
 have hs:w.heap.size≤w'.heap.size:=ho.size
 have hb:=ho.block b' hlt (by simpa using hne _ rfl)
 refine⟨b',o,J,by omega,fun k hk=> ?_⟩
 rw [←hc k hk]
 simp only [World.cell?,hb]
theorem EK {a m:Int} (ha:0≤a) (hm:0<m) :0≤a.tmod m∧a.tmod m<m:=⟨Int.tmod_nonneg _ ha,Int.tmod_lt_of_pos _ hm⟩
section
variable {b n c K:Nat} {A:Option Addr} {zs:List Int} {w:World}
theorem vY (m:Int) (hm:1<m) (hm2:m≤200) (hB:Byts w A n zs) (hne:0<n→∀p,A=some p→p.block≠b) (hP: (srcR b A n c K).P w) (hn:n≤1048576) (hK:K≤1000000) :
  Drw Tryz.prog 45 #[.pointer (some ⟨b,0,none⟩), .int .i64 m] w b A n c K (K+1) (fun v=>0≤v∧v<m) :=by
 refine Vy (m:=20) ([b]) (srcR b A n c K) (hP) (fun q hq=>jjp.2 hq) J (Tryz.func45) J J (lb J) ?_;refine S10 ?_;refine cZ (fun c1=> ?_) (fun c1=> ?_)
 ·omega
 ·refine S6 ?_;refine qN (k:=0) (X:= {v:Int//0≤v∧v≤255}) (v:=fun x=> .int .i64 x.1) (r':=fun _=>srcR b A n c (K+1)) vc J J J Dc J (fun w1 hs=>Gf b A n c zs K w1 (hB.ovx hs.over hne) hne (hs.all 0 _ J).1 hn hK) ?_
  rintro⟨v1,hv1⟩
  refine n9 ?_
  try dsimp only
  refine S8 ?_;refine cZ (fun c2=> ?_) (fun c2=> ?_)
  ·omega
  ·refine S6 ?_;refine a9 (Xi J J J Om Om Om) ?_;refine S3 ?_;refine jK J (.tmp J) ?_
   intro w' hs
   exact⟨⟨_,EK hv1.1 Om⟩,rfl,yR hs,(hs.all 0 _ rfl).1,fun q hq=> .inl hq,rfl⟩
abbrev jh9 {X:Type} (P:Program) (f:FuncId) (args:Array Value) (w:World) (b:Nat) (A:Option Addr) (n c K K':Nat) (v:X→Value) :Prop:=
 Calls P f args w fun e w'=>∃x:X,e= .returned (v x)∧Wrs (srcR b A n c K).F w w'∧(srcR b A n c K').P w'∧(∀q,(srcR b A n c K').F q→(srcR b A n c K).F q∨w.heap.size≤q)∧(srcR b A n c K').B=0
theorem C3 (m:Int) (hm:1<m) (hm2:m≤200) (hB:Byts w A n zs) (hne:0<n→∀p,A=some p→p.block≠b) (hP: (srcR b A n c K).P w) (hn:n≤1048576) (hK:K≤1000000) :
  jh9 Tryz.prog 98 #[.pointer (some ⟨b,0,none⟩), .int .i64 m] w b A n c K (K+1) (fun x:Bool=> .bool x) :=by
 refine Vy (m:=9) ([b]) (srcR b A n c K) (hP) (fun q hq=>jjp.2 hq) J (Tryz.func98) J J (lb J) ?_;refine S9 ?_;refine qN (k:=0) (X:= {v:Int//0≤v∧v<m}) (v:=fun x=> .int .i64 x.1) (r':=fun _=>srcR b A n c (K+1)) qk J J J Dc J (fun w1 hs=>vY (zs:=zs) m hm hm2 (hB.ovx hs.over hne) hne (hs.all 0 _ J).1 hn hK) ?_
 rintro⟨v1,hv1⟩
 refine N4 ?_;refine jK J (.tmp J) ?_
 intro w' hs
 exact⟨_,rfl,yR hs,(hs.all 0 _ rfl).1,fun q hq=> .inl hq,rfl⟩
theorem E3 (B:Option Addr) (m d:Nat) (xs:List Int) (hN:Nums w B m xs) (hm:1<m) (hm2:m≤200) (hne2:∀p,B=some p→p.block≠b) (hB:Byts w A n zs) (hne:0<n→∀p,A=some p→p.block≠b) (hP: (srcR b A n c K).P w) (hn:n≤1048576) (hK:K≤1000000) :
  Drw Tryz.prog 153 #[.pointer (some ⟨b,0,none⟩), .slice B m d] w b A n c K (K+1) (fun v=>v∈xs) :=by
 obtain ⟨gb,go,rfl,_⟩ :=hN.2 Om
 have hl:=hN.1
 refine Vy (m:=12) ([b]) (srcR b A n c K) (hP) (fun q hq=>jjp.2 hq) J (Tryz.func153) J J (lb J) ?_;refine S11 ?_;refine qN (k:=0) (X:= {v:Int//0≤v∧v< (m:Int)}) (v:=fun x=> .int .i64 x.1) (r':=fun _=>srcR b A n c (K+1)) qk J J J Dc J (fun w1 hs=>vY (zs:=zs) (m:Int) Om Om (hB.ovx hs.over hne) hne (hs.all 0 _ J).1 hn hK) ?_
 rintro⟨v1,hv1⟩
 refine n9 ?_
 try dsimp only
 obtain ⟨i,rfl⟩ :∃i:Nat,v1= (i:Int) :=⟨v1.toNat,by omega⟩
 refine S1 ?_;refine a9 (jo rfl rfl ju (fun w' hs=>by obtain ⟨b',o',e,_,hc⟩ := (hN.ovx hs.over hne2).2 Om;injection e with e;injection e with e1 e2 _;subst e1 e2;rw [jki];exact hc i Om)) ?_;refine S3 ?_;refine jK J (.tmp J) ?_
 intro w' hs
 exact⟨⟨_,by show nth xs i∈xs;rw [←Px (show i<xs.length by omega)];exact jju _⟩,rfl,yR hs,(hs.all 0 _ rfl).1,fun q hq=> .inl hq,rfl⟩
theorem D6 (m:Int) (hm:0≤m) (hm2:m≤262144) (hB:Byts w A n zs) (hne:0<n→∀p,A=some p→p.block≠b) (hP: (srcR b A n c K).P w) (hn:n≤1048576) (hK:K≤999990) :
  Drw Tryz.prog 215 #[.pointer (some ⟨b,0,none⟩), .int .i64 m] w b A n c K (K+4) (fun v=> -m≤v∧v≤m) :=by
 refine Vy (m:=24) ([b]) (srcR b A n c K) (hP) (fun q hq=>jjp.2 hq) J (Tryz.func215) J J (lb J) ?_;refine S8 ?_;refine qN (k:=0) (X:= {v:Int//0≤v∧v≤255}) (v:=fun x=> .int .i64 x.1) (r':=fun _=>srcR b A n c (K+1)) vc J J J Dc J (fun w1 hs=>Gf b A n c zs K w1 (hB.ovx hs.over hne) hne (hs.all 0 _ J).1 hn Om) ?_
 rintro⟨v1,hv1⟩
 refine n9 ?_
 try dsimp only
 refine S3 ?_;refine qN (k:=0) (X:= {v:Int//0≤v∧v≤255}) (v:=fun x=> .int .i64 x.1) (r':=fun _=>srcR b A n c (K+2)) vc J J J Dc J (fun w1 hs=>Gf b A n c zs (K+1) w1 (hB.ovx hs.over hne) hne (hs.all 0 _ J).1 hn Om) ?_
 rintro⟨v2,hv2⟩
 refine n9 ?_
 try dsimp only
 refine S4 ?_;refine qN (k:=0) (X:= {v:Int//0≤v∧v≤255}) (v:=fun x=> .int .i64 x.1) (r':=fun _=>srcR b A n c (K+3)) vc J J J Dc J (fun w1 hs=>Gf b A n c zs (K+2) w1 (hB.ovx hs.over hne) hne (hs.all 0 _ J).1 hn Om) ?_
 rintro⟨v3,hv3⟩
 refine n9 ?_
 try dsimp only
 refine S3 ?_;refine a9 (Xi J J J Om Om Om) ?_
 have hr:=EK (a:=v1*65536+v2*256+v3) (m:=m+1) Om Om
 obtain ⟨r,hrr⟩ :∃r,r= (v1*65536+v2*256+v3).tmod (m+1) :=⟨_,rfl⟩
 rw [←hrr] at hr⊢
 refine S7 ?_;refine qN (k:=0) (X:=Bool) (v:=fun x=> .bool x) (r':=fun _=>srcR b A n c (K+4)) Ub J J J Dc J (fun w1 hs=>C3 (zs:=zs) (K:=K+3) 2 Dc Dc (hB.ovx hs.over hne) hne (hs.all 0 _ J).1 hn Om) ?_
 rintro ob
 refine N1 ?_;refine cZ (fun c1=> ?_) (fun c1=> ?_)
 ·refine S3 ?_;refine a9 (yK J J Om Om) ?_;refine S4 ?_;refine jK J (.tmp J) ?_
  intro w' hs
  exact⟨⟨_,by omega⟩,rfl,yR hs,(hs.all 0 _ rfl).1,fun q hq=> .inl hq,rfl⟩
 ·refine S8 ?_;refine jK J (.tmp J) ?_
  intro w' hs
  exact⟨⟨_,by omega⟩,rfl,yR hs,(hs.all 0 _ rfl).1,fun q hq=> .inl hq,rfl⟩
def E7 (m:Int) (p:Pn) :Prop:= (-m≤p.1∧p.1≤m)∧-m≤p.2∧p.2≤m
theorem jco (m:Int) (hm:0≤m) (hm2:m≤262144) (hB:Byts w A n zs) (hne:0<n→∀p,A=some p→p.block≠b) (hP: (srcR b A n c K).P w) (hn:n≤1048576) (hK:K≤999980) :
  jh9 Tryz.prog 154 #[.pointer (some ⟨b,0,none⟩), .int .i64 m] w b A n c K (K+8) (fun x: {p:Pn//E7 m p} =>pV x.1) :=by
 refine Vy (m:=14) ([b]) (srcR b A n c K) (hP) (fun q hq=>jjp.2 hq) J (Tryz.func154) J J (lb J) ?_;refine S3 ?_;refine aL (fun b1=> ?_);refine N6 ?_;refine qN (k:=0) (X:= {v:Int// -m≤v∧v≤m}) (v:=fun x=> .int .i64 x.1) (r':=fun _=>srcR b A n c (K+4)) Yh J J J Dc J (fun w1 hs=>D6 (zs:=zs) m hm hm2 (hB.ovx hs.over hne) hne (hs.all 0 _ J).1 hn Om) ?_
 rintro⟨v1,hv1⟩
 refine n9 ?_
 try dsimp only
 refine S8 ?_;refine qN (k:=0) (X:= {v:Int// -m≤v∧v≤m}) (v:=fun x=> .int .i64 x.1) (r':=fun _=>srcR b A n c (K+8)) Yh J J J Dc J (fun w1 hs=>D6 (zs:=zs) (K:=K+4) m hm hm2 (hB.ovx hs.over hne) hne (hs.all 0 _ J).1 hn Om) ?_
 rintro⟨v2,hv2⟩
 refine n9 ?_
 try dsimp only
 refine a9 (JR J J (q8 J J)) ?_;refine S4 ?_;refine jK J (J8 (k:=1) J jk J J) ?_
 intro w' hs
 exact⟨⟨(v1,v2),hv1,hv2⟩,rfl,yR hs,(hs.all 0 _ rfl).1,fun q hq=> .inl hq,rfl⟩
end
theorem jgy {m:Int} {p:Pn} (h:E7 m p) (hm:m≤262144) :bd2 p:=by
 obtain ⟨⟨h1,h2⟩,h3,h4⟩ :=h
 exact⟨⟨by omega,by omega⟩,by omega,by omega⟩
theorem SW (A:Option Addr) (n c:Nat) (w:World) :
  Calls Tryz.prog 43 #[.slice A n c] w fun e w'=>∃g:Nat,e= .returned (.pointer (some ⟨g,0,none⟩))∧Over w w'∧(srcR g A n c 0).P w'∧(∀q,(srcR g A n c 0).F q→w.heap.size≤q)∧(srcR g A n c 0).B=0∧True:=by
 refine j6 (m:=6) (Tryz.func43) J J (lb J) ?_;refine S7 ?_;refine a9 (JR J J (XI J)) ?_;refine S1 ?_;refine aX (fun b1=> ?_);refine N3 ?_;refine jK J (.tmp J) ?_
 intro w' hs
 exact⟨b1,rfl,hs.fin,⟨0,0,jjm _,by decide,by decide,hs.cel (k:=0) rfl⟩,fun q hq=>hq▸((hs.all 0 _ rfl).2.1 b1 rfl).elim id (fun h=>by cases h),sz⟩
theorem jfP {w0:Bs} {Rs:List Res} {k b T m:Nat} (xs:List Int) (hk:Rs[k]? =some (.cel b T (xs.map (Value.int .i64)))) (hm:xs.length=m) :∀w,St w0 Rs w→Nums w (some ⟨b,0,none⟩) m xs:=fun w hs=>by
 have hh:=hs.cel hk
 refine⟨hm,fun _=>⟨b,0,J,JT hh,fun j hj=> ?_⟩⟩
 rw [jjP,cell_of_row w b _ _ T (0,0) hh,List.getElem?_toArray,List.getElem?_map,List.getElem?_eq_getElem (show j<xs.length by omega),Px Om]
 rfl
section
variable {n c:Nat} {A:Option Addr} {zs:List Int} {w:World}
theorem jiW (hB:Byts w A n zs) {g:Nat} (hg:w.heap.size≤g) :0<n→∀p,A=some p→p.block≠g:=fun h0 p hp e=>by
 obtain ⟨b,o,hA,hlt,_⟩ :=hB.2.2 h0
 rw [hA] at hp
 injection hp with hp
 subst hp
 have:b=g:=e
 omega
end
end Go.Proofs.YtbahojdbmmjkcaaGreat
