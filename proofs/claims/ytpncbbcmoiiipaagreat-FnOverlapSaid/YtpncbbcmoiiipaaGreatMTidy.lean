import Derived.Test.YtpncbbcmoiiipaaGreatMOrder
import Derived.Test.YtpncbbcmoiiipaaGreatMOwn
import Derived.Test.YtpncbbcmoiiipaaGreatMCmbS
import Derived.Test.YtpncbbcmoiiipaaGreatMOvS
import Derived.Test.YtpncbbcmoiiipaaGreatMTrQ
import Derived.Test.YtpncbbcmoiiipaaGreatMNums
import Derived.Test.YtpncbbcmoiiipaaGreatMTopo4
set_option linter.unusedVariables false
set_option linter.unusedSimpArgs false
namespace Go.Proofs.YtpncbbcmoiiipaaGreat
open Go Go.RowKit
theorem RingsC.rings {w:World} {A:Option Addr} {n:Nat} {rs:List jV} (h:RingsC w A n rs) (hs:∀r∈rs,r.length≤1048577) :Rings w A n rs:=⟨h.1,fun hn=>by
 have hl:=h.1
 obtain ⟨b,o,hA,hb,hc⟩ :=h.2 hn
 refine⟨b,o,hA,hb,fun k hk=> ?_⟩
 obtain ⟨Ak,ck,h1,h2,h3⟩ :=hc k hk
 have:=hs rs[k] (jis Om)
 rw [Wa Om] at this
 exact⟨Ak,ck,h1,h2,by omega⟩⟩
end Go.Proofs.YtpncbbcmoiiipaaGreat
namespace Go.Proofs.YtpncbbcmoiiipaaGreat
open Go Go.RowKit
set_option maxRecDepth 100000
set_option maxHeartbeats 4000000
theorem Rg (A:Option Addr) (n c:Nat) (rs:List jV) (A2:Option Addr) (n2 c2_:Nat) (ss:List jV) (w:World) (h:Rings w A n rs) (hm: (n:Int)≤9223372036854775807) (h2:Rings w A2 n2 ss) (hm2: (n2:Int)≤9223372036854775807) :
  Calls Tryz.prog 49 #[qT A n c,qT A2 n2 c2_] w fun e w'=>∃A' c',e= .returned (.tuple #[qT A' (uU rs ss 1).length c', .int .i64 (Gz rs ss 1)])∧OwnG w.heap.size w'.heap.size w' A' (uU rs ss 1).length (uU rs ss 1)∧Over w w':=by
 refine Jh (m:=11) (Tryz.func49) J J (lb J) ?_;refine S3 ?_;refine aX (fun b1=> ?_);refine N1 ?_;refine aX (fun b2=> ?_);refine N1 ?_;refine aL (fun b3=> ?_);refine N7 ?_;refine J4 Yz (X:= (Option Addr×Nat)×Nat×Nat) (v:=fun x=> .tuple #[qT x.1.1 (uU rs ss 1).length x.1.2, .int .i64 (Gz rs ss 1)]) (r:=fun x=>Ky (uU rs ss 1).length (uU rs ss 1) x.2.1 x.2.2 x.1.1) (H:=fun _=>True) J J J (lb J) (fun w1 hs=>KB (V:=fun A' c'=> .tuple #[qT A' (uU rs ss 1).length c', .int .i64 (Gz rs ss 1)]) (Z9 A n c rs A2 n2 c2_ ss 1 w1 (h.over hs.fin) hm (h2.over hs.fin) hm2)) ?_
 rintro⟨⟨oA,oc⟩,olo,ohi⟩ -
 refine N7 ?_;refine qv J (qh (k:=2) J jG J J) (.tmp J) ?_
 intro w' hs
 have hg:=hs.all 3 _ rfl
 have ho:=GN hg.1 (fun b hb=> (hg.2.1 b hb).elim id (fun h=>by cases h))
 exact⟨oA,oc,rfl,ho,hs.fin⟩
theorem jc8 (w:World) :Rings w none 0 [] :=⟨rfl,fun h=>absurd h Dc⟩
theorem jgj {rs:List jV} (h:JE rs=true) :uU rs [] 1=LJ rs [] 1∧Gz rs [] 1=FE rs [] 1:=jfL (by rw [xh,h];rfl) rfl
theorem Cd {n:Nat} {rs:List jV} (hl:rs.length=n) (ht: (total rs:Int)≤1048576) : (n:Int)≤9223372036854775807:=by
 unfold total at ht
 omega
theorem VD (A:Option Addr) (n c:Nat) (rs:List jV) (w:World) (h:Rings w A n rs) (ht: (total rs:Int)≤1048576) :
  Calls Tryz.prog 38 #[qT A n c] w fun e w'=>∃A' c',e= .returned (.tuple #[qT A' (uU rs [] 1).length c', .int .i64 (Gz rs [] 1)])∧OwnG w.heap.size w'.heap.size w' A' (uU rs [] 1).length (uU rs [] 1)∧Over w w':=by
 refine Jh (m:=9) (Tryz.func38) J J (lb J) ?_;refine S3 ?_;refine aX (fun b1=> ?_);refine N1 ?_;refine aL (fun b2=> ?_);refine N5 ?_;refine a9 (JU J J (qg)) ?_;refine S1 ?_;refine J4 LR (X:= (Option Addr×Nat)×Nat×Nat) (v:=fun x=> .tuple #[qT x.1.1 (uU rs [] 1).length x.1.2, .int .i64 (Gz rs [] 1)]) (r:=fun x=>Ky (uU rs [] 1).length (uU rs [] 1) x.2.1 x.2.2 x.1.1) (H:=fun _=>True) J J J (lb J) (fun w1 hs=>KB (V:=fun A' c'=> .tuple #[qT A' (uU rs [] 1).length c', .int .i64 (Gz rs [] 1)]) (Rg A n c rs none 0 0 [] w1 (h.over hs.fin) (Cd h.1 ht) (jc8 w1) Dc)) ?_
 rintro⟨⟨oA,oc⟩,olo,ohi⟩ -
 refine N7 ?_;refine qv J (qh (k:=1) J jG J J) (.tmp J) ?_
 intro w' hs
 have hg:=hs.all 2 _ rfl
 have ho:=GN hg.1 (fun b hb=> (hg.2.1 b hb).elim id (fun h=>by cases h))
 exact⟨oA,oc,rfl,ho,hs.fin⟩
theorem zl (A:Option Addr) (n c:Nat) (rs:List jV) (w:World) (h:Rings w A n rs) (ht: (total rs:Int)≤1048576) :
  Calls Tryz.prog 39 #[qT A n c] w fun e w'=>∃A' c',e= .returned (.tuple #[qT A' (uU rs [] 1).length c', .int .i64 (Gz rs [] 1)])∧OwnG w.heap.size w'.heap.size w' A' (uU rs [] 1).length (uU rs [] 1)∧Over w w':=by
 refine Jh (m:=12) (Tryz.func39) J J (lb J) ?_;refine S3 ?_;refine aX (fun b1=> ?_);refine N1 ?_;refine aL (fun b2=> ?_);refine N5 ?_;refine a9 (jT vD J J (fun w1 hs=>GT _ _ A n c rs w1 (qo (k:=0) J J w1 hs) (J3 (hs.cel (k:=0) J)) (h.over hs.fin) (Cd h.1 ht))) ?_;refine S2 ?_;refine cZ (fun c1=> ?_) (fun c1=> ?_)
 ·refine S2 ?_;refine a9 (JU J J (qg)) ?_;refine S6 ?_;refine qv J (qh (k:=1) J jG J J) (.tmp J) ?_
  intro w' hs
  obtain ⟨e1,e2⟩ :=jbj (ss:= []) (how:=1) (rs:=rs) (by rw [xh];simp [c1])
  exact⟨none,0,by rw [e1,e2];rfl,by rw [e1];exact OwnG.nil none,hs.fin⟩
 ·have hr:JE rs=true:= (by simpa using c1)
  obtain ⟨e1,e2⟩ :=jgj hr
  rw [e1,e2]
  refine S4 ?_;refine a9 (JU J J (qg)) ?_;refine S1 ?_;refine aX (fun b3=> ?_);refine N1 ?_;refine J4 xD (X:= (Option Addr×Nat)×Nat×Nat) (v:=fun x=> .tuple #[qT x.1.1 (LJ rs [] 1).length x.1.2, .int .i64 (FE rs [] 1)]) (r:=fun x=>Ky (LJ rs [] 1).length (LJ rs [] 1) x.2.1 x.2.2 x.1.1) (H:=fun _=>True) J J J (lb J) (fun w1 hs=>KB (V:=fun A' c'=> .tuple #[qT A' (LJ rs [] 1).length c', .int .i64 (FE rs [] 1)]) (Ob _ _ _ _ A n c rs none 0 0 [] 1 w1 (qo (k:=0) J J w1 hs) (J3 (hs.cel (k:=0) J)) (qo (k:=2) J J w1 hs) (J3 (hs.cel (k:=2) J)) (h.over hs.fin) (jc8 w1) hr J)) ?_
  rintro⟨⟨oA,oc⟩,olo,ohi⟩ -
  refine N7 ?_;refine qv J (qh (k:=1) J jG J J) (.tmp J) ?_
  intro w' hs
  have hg:=hs.all 3 _ rfl
  have ho:=GN hg.1 (fun b hb=> (hg.2.1 b hb).elim id (fun h=>by cases h))
  exact⟨oA,oc,rfl,ho,hs.fin⟩
def clB (rs:List jV) :Bool:=Gz rs [] 1==0&&decide (uU rs [] 1=rs)
theorem jgk (rs:List jV) (how:Int) {ss:List jV} : ((uU rs ss how).length:Int)≤1048576:=by
 have:= (Et rs ss how).total
 unfold total at this
 omega
theorem Rf (A:Option Addr) (n c:Nat) (rs:List jV) (w:World) (h:Rings w A n rs) (ht: (total rs:Int)≤1048576) :
  Calls Tryz.prog 44 #[qT A n c] w fun e w'=>e= .returned (.bool (clB rs))∧Over w w':=by
 have hl:=h.1
 have hm: (n:Int)≤9223372036854775807:=by unfold total at ht;omega
 refine Jh (m:=17) (Tryz.func44) J J (lb J) ?_;refine S3 ?_;refine aX (fun b1=> ?_);refine N6 ?_;refine J4 K8 (X:= (Option Addr×Nat)×Nat×Nat) (v:=fun x=> .tuple #[qT x.1.1 (uU rs [] 1).length x.1.2, .int .i64 (Gz rs [] 1)]) (r:=fun x=>Ky (uU rs [] 1).length (uU rs [] 1) x.2.1 x.2.2 x.1.1) (H:=fun _=>True) J J J (lb J) (fun w1 hs=>KB (V:=fun A' c'=> .tuple #[qT A' (uU rs [] 1).length c', .int .i64 (Gz rs [] 1)]) (VD A n c rs w1 (h.over hs.fin) ht)) ?_
 rintro⟨⟨oA,oc⟩,olo,ohi⟩ -
 refine N4 ?_;refine aL (fun b2=> ?_);refine N9 ?_;refine cV 12 (fun g1=> ?_) (fun g1=> ?_)
 ·refine S5 ?_;refine o9 (jT UI J J (fun w1 hs=>zo _ A _ n _ c (uU rs [] 1) rs w1 (UD (hs.all 1 _ J).1).rings (h.over hs.fin) (jjC (jgk rs 1) Dc))) ?_;refine S4 ?_;refine jM J (.tmp J) ?_
  intro w' hs
  exact⟨QH (by simp [clB,g1]),hs.fin⟩
 ·refine S7 ?_;refine jM J (.tmp J) ?_
  intro w' hs
  exact⟨QH (by simp [clB,g1]),hs.fin⟩
end Go.Proofs.YtpncbbcmoiiipaaGreat
namespace Go.Proofs.YtpncbbcmoiiipaaGreat
open Go Go.RowKit
theorem jef {rs ss:List jV} {how:Int} (h:FE rs ss how=0) :VE rs ss=true∧JE (KX (vo rs ss how)) =true∧LJ rs ss how=KX (vo rs ss how) :=by
 unfold FE at h
 split at h
 ·rename_i hf
  unfold LM at h
  split at h
  ·rename_i hg
   exact⟨hf,hg,by unfold LJ GL;rw [if_pos hf,if_pos hg]⟩
  ·omega
 ·omega
theorem jbq {rs ss:List jV} {how:Int} (h1:JE rs=true) (h2:JE ss=true) (hh:HY how=true) :uU rs ss how=LJ rs ss how∧Gz rs ss how=FE rs ss how:=by
 have h:xh rs ss=true:=by unfold xh;rw [h1,h2];rfl
 exact⟨by unfold uU;rw [if_pos h,if_pos hh],by unfold Gz;rw [if_pos h,if_pos hh]⟩
theorem jfJ (E:List Leg) (p:Pn) :wind false E p.1 p.2=xW p E:=by
 rw [wind,HL _ _ _ _ _ (jih _),jiX]
 rfl
theorem Oe:∀E:List Leg,KT E=sm (fun l=>RK (lA l) (lB l)) E
 | [] =>rfl
 | e::E=>by
  have:=Oe E
  have e1:UH e=RK (lA e) (lB e) :=by
   unfold UH RK lA lB
   grind
  simp only [KT,sm,this,e1]
structure OvE (rs T:List jV) :Prop where
 reg:JE T=true
 again:uU T [] 1=T∧Gz T [] 1=0
 rev:uU (Ti rs) [] 1=T∧Gz (Ti rs) [] 1=0
 clean:clB T=true
 isn:Ng T=true
 w:∀p:Pn,wind false (jE T) p.1 p.2=0∨wind false (jE T) p.1 p.2=1
 area:0≤atA T
theorem jgW {rs:List jV} (hr:JE rs=true) (hr':JE (rs.map List.reverse) =true) (hc:Gz rs [] 1=0) :OvE rs (uU rs [] 1) :=by
 obtain ⟨e1,e2⟩ :=jbq (how:=1) hr (show JE [] =true from rfl) rfl
 rw [e2] at hc
 obtain ⟨hf,hg,e3⟩ :=jef hc
 rw [e1,e3]
 have hlen: (jE rs++jE ([] :List jV)).length≤400:=by
  simp only [VE,jig,decide_eq_true_eq] at hf
  exact hf.1
 have hcm:CmOk rs [] :=⟨hr,rfl,hlen⟩
 have hoA:VA rs [] =true:=by simp only [VE,jig] at hf;exact hf.2.1
 have hoB:WO rs [] =true:=by simp only [VE,jig] at hf;exact hf.2.2
 have hT:=jh1 hcm hoA hoB hg
 obtain ⟨a1,a2⟩ :=jbq (how:=1) hg (show JE [] =true from rfl) rfl
 have hag:uU (KX (vo rs [] 1)) [] 1=KX (vo rs [] 1)∧Gz (KX (vo rs [] 1)) [] 1=0:=⟨by rw [a1,hT.r],by rw [a2,hT.c]⟩
 have hrv:Ti rs=rs.map List.reverse:=if_pos hr
 obtain ⟨b1,b2⟩ :=jbq (how:=1) hr' (show JE [] =true from rfl) rfl
 obtain ⟨r1,r2⟩ :=jg0 hr hr' (by simpa [jE,qJ] using hlen)
 refine⟨hg,hag,⟨by rw [hrv,b1,r1,e3],by rw [hrv,b2,r2,hc]⟩,?_,hT.isn,fun p=> ?_,?_⟩
 ·unfold clB
  rw [hag.1,hag.2]
  simp
 ·rw [jfJ,hT.wind p]
  unfold ix
  split
  ·exact .inr rfl
  ·exact .inl rfl
 ·rw [atA,if_pos hg,Oe]
  exact hT.area
end Go.Proofs.YtpncbbcmoiiipaaGreat
namespace Go.Proofs.YtpncbbcmoiiipaaGreat
open Go Go.RowKit
set_option maxRecDepth 100000
set_option maxHeartbeats 4000000
theorem Nums.ovx {w w':World} {b:Nat} {A:Option Addr} {n:Nat} {zs:List Int} (h:Nums w A n zs) (ho:Ovx ⟨w,[b]⟩ w') (hne:∀p,A=some p→p.block≠b) :Nums w' A n zs:=by
 refine⟨h.1,fun hn=> ?_⟩
 obtain ⟨b',o,rfl,hlt,hc⟩ :=h.2 hn
 have hs:w.heap.size≤w'.heap.size:=ho.size
 have hb:=ho.block b' hlt (by simpa using hne _ rfl)
 refine⟨b',o,J,by omega,fun k hk=> ?_⟩
 rw [←hc k hk]
 simp only [World.cell?,hb]
theorem CZ {a m:Int} (ha:0≤a) (hm:0<m) :0≤a.tmod m∧a.tmod m<m:=⟨Int.tmod_nonneg _ ha,Int.tmod_lt_of_pos _ hm⟩
section
variable {b n c K:Nat} {A:Option Addr} {zs:List Int} {w:World}
theorem vU (m:Int) (hm:1<m) (hm2:m≤200) (hB:Byts w A n zs) (hne:0<n→∀p,A=some p→p.block≠b) (hP: (srcR b A n c K).P w) (hn:n≤1048576) (hK:K≤1000000) :
  Drw Tryz.prog 90 #[.pointer (some ⟨b,0,none⟩), .int .i64 m] w b A n c K (K+1) (fun v=>0≤v∧v<m) :=by
 refine Vp (m:=20) ([b]) (srcR b A n c K) (hP) (fun q hq=>jik.2 hq) J (Tryz.func90) J J (lb J) ?_;refine S10 ?_;refine cZ (fun c1=> ?_) (fun c1=> ?_)
 ·omega
 ·refine S6 ?_;refine qO (k:=0) (X:= {v:Int//0≤v∧v≤255}) (v:=fun x=> .int .i64 x.1) (r':=fun _=>srcR b A n c (K+1)) K9 J J J Dc J (fun w1 hs=>XF b A n c zs K w1 (hB.ovx hs.over hne) hne (hs.all 0 _ J).1 hn hK) ?_
  rintro⟨v1,hv1⟩
  refine n9 ?_
  try dsimp only
  refine S8 ?_;refine cZ (fun c2=> ?_) (fun c2=> ?_)
  ·omega
  ·refine S6 ?_;refine a9 (Hl J J J Om Om Om) ?_;refine S3 ?_;refine jM J (.tmp J) ?_
   intro w' hs
   exact⟨⟨_,CZ hv1.1 Om⟩,rfl,yy hs,(hs.all 0 _ rfl).1,fun q hq=> .inl hq,rfl⟩
abbrev jhi {X:Type} (P:Program) (f:FuncId) (args:Array Value) (w:World) (b:Nat) (A:Option Addr) (n c K K':Nat) (v:X→Value) :Prop:=
 Calls P f args w fun e w'=>∃x:X,e= .returned (v x)∧Wrs (srcR b A n c K).F w w'∧(srcR b A n c K').P w'∧(∀q,(srcR b A n c K').F q→(srcR b A n c K).F q∨w.heap.size≤q)∧(srcR b A n c K').B=0
theorem Ci (m:Int) (hm:1<m) (hm2:m≤200) (hB:Byts w A n zs) (hne:0<n→∀p,A=some p→p.block≠b) (hP: (srcR b A n c K).P w) (hn:n≤1048576) (hK:K≤1000000) :
  jhi Tryz.prog 146 #[.pointer (some ⟨b,0,none⟩), .int .i64 m] w b A n c K (K+1) (fun x:Bool=> .bool x) :=by
 refine Vp (m:=9) ([b]) (srcR b A n c K) (hP) (fun q hq=>jik.2 hq) J (Tryz.func146) J J (lb J) ?_;refine S9 ?_;refine qO (k:=0) (X:= {v:Int//0≤v∧v<m}) (v:=fun x=> .int .i64 x.1) (r':=fun _=>srcR b A n c (K+1)) qk J J J Dc J (fun w1 hs=>vU (zs:=zs) m hm hm2 (hB.ovx hs.over hne) hne (hs.all 0 _ J).1 hn hK) ?_
 rintro⟨v1,hv1⟩
 refine N4 ?_;refine jM J (.tmp J) ?_
 intro w' hs
 exact⟨_,rfl,yy hs,(hs.all 0 _ rfl).1,fun q hq=> .inl hq,rfl⟩
theorem Ef (B:Option Addr) (m d:Nat) (xs:List Int) (hN:Nums w B m xs) (hm:1<m) (hm2:m≤200) (hne2:∀p,B=some p→p.block≠b) (hB:Byts w A n zs) (hne:0<n→∀p,A=some p→p.block≠b) (hP: (srcR b A n c K).P w) (hn:n≤1048576) (hK:K≤1000000) :
  Drw Tryz.prog 197 #[.pointer (some ⟨b,0,none⟩), .slice B m d] w b A n c K (K+1) (fun v=>v∈xs) :=by
 obtain ⟨gb,go,rfl,_⟩ :=hN.2 Om
 have hl:=hN.1
 refine Vp (m:=12) ([b]) (srcR b A n c K) (hP) (fun q hq=>jik.2 hq) J (Tryz.func197) J J (lb J) ?_;refine S11 ?_;refine qO (k:=0) (X:= {v:Int//0≤v∧v< (m:Int)}) (v:=fun x=> .int .i64 x.1) (r':=fun _=>srcR b A n c (K+1)) qk J J J Dc J (fun w1 hs=>vU (zs:=zs) (m:Int) Om Om (hB.ovx hs.over hne) hne (hs.all 0 _ J).1 hn hK) ?_
 rintro⟨v1,hv1⟩
 refine n9 ?_
 try dsimp only
 obtain ⟨i,rfl⟩ :∃i:Nat,v1= (i:Int) :=⟨v1.toNat,by omega⟩
 refine S1 ?_;refine a9 (jn rfl rfl jt (fun w' hs=>by obtain ⟨b',o',e,_,hc⟩ := (hN.ovx hs.over hne2).2 Om;injection e with e;injection e with e1 e2 _;subst e1 e2;rw [jjf];exact hc i Om)) ?_;refine S3 ?_;refine jM J (.tmp J) ?_
 intro w' hs
 exact⟨⟨_,by show nth xs i∈xs;rw [←NB (show i<xs.length by omega)];exact jis _⟩,rfl,yy hs,(hs.all 0 _ rfl).1,fun q hq=> .inl hq,rfl⟩
theorem Dt (m:Int) (hm:0≤m) (hm2:m≤262144) (hB:Byts w A n zs) (hne:0<n→∀p,A=some p→p.block≠b) (hP: (srcR b A n c K).P w) (hn:n≤1048576) (hK:K≤999990) :
  Drw Tryz.prog 248 #[.pointer (some ⟨b,0,none⟩), .int .i64 m] w b A n c K (K+4) (fun v=> -m≤v∧v≤m) :=by
 refine Vp (m:=24) ([b]) (srcR b A n c K) (hP) (fun q hq=>jik.2 hq) J (Tryz.func248) J J (lb J) ?_;refine S8 ?_;refine qO (k:=0) (X:= {v:Int//0≤v∧v≤255}) (v:=fun x=> .int .i64 x.1) (r':=fun _=>srcR b A n c (K+1)) K9 J J J Dc J (fun w1 hs=>XF b A n c zs K w1 (hB.ovx hs.over hne) hne (hs.all 0 _ J).1 hn Om) ?_
 rintro⟨v1,hv1⟩
 refine n9 ?_
 try dsimp only
 refine S3 ?_;refine qO (k:=0) (X:= {v:Int//0≤v∧v≤255}) (v:=fun x=> .int .i64 x.1) (r':=fun _=>srcR b A n c (K+2)) K9 J J J Dc J (fun w1 hs=>XF b A n c zs (K+1) w1 (hB.ovx hs.over hne) hne (hs.all 0 _ J).1 hn Om) ?_
 rintro⟨v2,hv2⟩
 refine n9 ?_
 try dsimp only
 refine S4 ?_;refine qO (k:=0) (X:= {v:Int//0≤v∧v≤255}) (v:=fun x=> .int .i64 x.1) (r':=fun _=>srcR b A n c (K+3)) K9 J J J Dc J (fun w1 hs=>XF b A n c zs (K+2) w1 (hB.ovx hs.over hne) hne (hs.all 0 _ J).1 hn Om) ?_
 rintro⟨v3,hv3⟩
 refine n9 ?_
 try dsimp only
 refine S3 ?_;refine a9 (Hl J J J Om Om Om) ?_
 have hr:=CZ (a:=v1*65536+v2*256+v3) (m:=m+1) Om Om
 obtain ⟨r,hrr⟩ :∃r,r= (v1*65536+v2*256+v3).tmod (m+1) :=⟨_,rfl⟩
 rw [←hrr] at hr⊢
 refine S7 ?_;refine qO (k:=0) (X:=Bool) (v:=fun x=> .bool x) (r':=fun _=>srcR b A n c (K+4)) uH J J J Dc J (fun w1 hs=>Ci (zs:=zs) (K:=K+3) 2 Dc Dc (hB.ovx hs.over hne) hne (hs.all 0 _ J).1 hn Om) ?_
 rintro ob
 refine N1 ?_;refine cZ (fun c1=> ?_) (fun c1=> ?_)
 ·refine S3 ?_;refine a9 (YD J J Om Om) ?_;refine S4 ?_;refine jM J (.tmp J) ?_
  intro w' hs
  exact⟨⟨_,by omega⟩,rfl,yy hs,(hs.all 0 _ rfl).1,fun q hq=> .inl hq,rfl⟩
 ·refine S8 ?_;refine jM J (.tmp J) ?_
  intro w' hs
  exact⟨⟨_,by omega⟩,rfl,yy hs,(hs.all 0 _ rfl).1,fun q hq=> .inl hq,rfl⟩
def Ek (m:Int) (p:Pn) :Prop:= (-m≤p.1∧p.1≤m)∧-m≤p.2∧p.2≤m
theorem jbH (m:Int) (hm:0≤m) (hm2:m≤262144) (hB:Byts w A n zs) (hne:0<n→∀p,A=some p→p.block≠b) (hP: (srcR b A n c K).P w) (hn:n≤1048576) (hK:K≤999980) :
  jhi Tryz.prog 198 #[.pointer (some ⟨b,0,none⟩), .int .i64 m] w b A n c K (K+8) (fun x: {p:Pn//Ek m p} =>pV x.1) :=by
 refine Vp (m:=14) ([b]) (srcR b A n c K) (hP) (fun q hq=>jik.2 hq) J (Tryz.func198) J J (lb J) ?_;refine S3 ?_;refine aL (fun b1=> ?_);refine N6 ?_;refine qO (k:=0) (X:= {v:Int// -m≤v∧v≤m}) (v:=fun x=> .int .i64 x.1) (r':=fun _=>srcR b A n c (K+4)) yS J J J Dc J (fun w1 hs=>Dt (zs:=zs) m hm hm2 (hB.ovx hs.over hne) hne (hs.all 0 _ J).1 hn Om) ?_
 rintro⟨v1,hv1⟩
 refine n9 ?_
 try dsimp only
 refine S8 ?_;refine qO (k:=0) (X:= {v:Int// -m≤v∧v≤m}) (v:=fun x=> .int .i64 x.1) (r':=fun _=>srcR b A n c (K+8)) yS J J J Dc J (fun w1 hs=>Dt (zs:=zs) (K:=K+4) m hm hm2 (hB.ovx hs.over hne) hne (hs.all 0 _ J).1 hn Om) ?_
 rintro⟨v2,hv2⟩
 refine n9 ?_
 try dsimp only
 refine a9 (JU J J (q8 J J)) ?_;refine S4 ?_;refine jM J (qh (k:=1) J jj J J) ?_
 intro w' hs
 exact⟨⟨(v1,v2),hv1,hv2⟩,rfl,yy hs,(hs.all 0 _ rfl).1,fun q hq=> .inl hq,rfl⟩
end
theorem jhl {m:Int} {p:Pn} (h:Ek m p) (hm:m≤262144) :bd2 p:=by
 obtain ⟨⟨h1,h2⟩,h3,h4⟩ :=h
 exact⟨⟨by omega,by omega⟩,by omega,by omega⟩
theorem Si (A:Option Addr) (n c:Nat) (w:World) :
  Calls Tryz.prog 88 #[.slice A n c] w fun e w'=>∃g:Nat,e= .returned (.pointer (some ⟨g,0,none⟩))∧Over w w'∧(srcR g A n c 0).P w'∧(∀q,(srcR g A n c 0).F q→w.heap.size≤q)∧(srcR g A n c 0).B=0∧True:=by
 refine Jh (m:=6) (Tryz.func88) J J (lb J) ?_;refine S7 ?_;refine a9 (JU J J (Xb J)) ?_;refine S1 ?_;refine aX (fun b1=> ?_);refine N3 ?_;refine jM J (.tmp J) ?_
 intro w' hs
 exact⟨b1,rfl,hs.fin,⟨0,0,jih _,by decide,by decide,hs.cel (k:=0) rfl⟩,fun q hq=>hq▸((hs.all 0 _ rfl).2.1 b1 rfl).elim id (fun h=>by cases h),sz⟩
theorem je2 {w0:Bs} {Rs:List Res} {k b T m:Nat} (xs:List Int) (hk:Rs[k]? =some (.cel b T (xs.map (Value.int .i64)))) (hm:xs.length=m) :∀w,St w0 Rs w→Nums w (some ⟨b,0,none⟩) m xs:=fun w hs=>by
 have hh:=hs.cel hk
 refine⟨hm,fun _=>⟨b,0,J,J3 hh,fun j hj=> ?_⟩⟩
 rw [jiL,cell_of_row w b _ _ T (0,0) hh,List.getElem?_toArray,List.getElem?_map,List.getElem?_eq_getElem (show j<xs.length by omega),NB Om]
 rfl
section
variable {n c:Nat} {A:Option Addr} {zs:List Int} {w:World}
theorem jhX (hB:Byts w A n zs) {g:Nat} (hg:w.heap.size≤g) :0<n→∀p,A=some p→p.block≠g:=fun h0 p hp e=>by
 obtain ⟨b,o,hA,hlt,_⟩ :=hB.2.2 h0
 rw [hA] at hp
 injection hp with hp
 subst hp
 have:b=g:=e
 omega
end
def FK (n:Nat) (rs:List jV) :Prop:=rs.length≤n∧∀r∈rs,(0<r.length∧r.length≤6)∧∀p∈r,Ek 50 p
theorem FL {n:Nat} {rs:List jV} (h:FK n rs) :∀k,k≤rs.length→Wz rs k≤6*k
 | 0,_=>by simp [Wz]
 | k+1,hk=>by
  have h1:=FL h k Om
  have h2:= (h.2 (rg rs k) (Wa (show k<rs.length by omega)▸jis _)).1.2
  simp only [Wz]
  omega
theorem PG {n:Nat} {rs:List jV} (h:FK n rs) (hn:n≤10) :JE rs=true:=by
 have h1:=h.1
 have h2:=FL h rs.length (jih _)
 have h3:=yB rs rs.length
 have h4:rs.all QA=true:=jjn.2 fun r hr=>by
  obtain ⟨⟨a,b⟩,c⟩ :=h.2 r hr
  have e:WE r=true:=jjn.2 fun p hp=>yh (jhl (c p hp) Dc)
  simp only [QA,xZ,jig,decide_eq_true_eq]
  exact⟨⟨by omega,by omega⟩,e⟩
 rw [UP Om h4]
 exact decide_eq_true (by unfold jE;omega)
theorem Ez {n:Nat} {rs:List jV} (h:FK n rs) :total rs≤7*n:=by
 have h1:=h.1
 have h2:=FL h rs.length (jih _)
 unfold total
 omega
abbrev jhT (n:Nat) := {rs:List jV//FK n rs}
abbrev DPt:= {p:Pn//Ek 50 p}
abbrev DX (n:Nat) :=jhT n×(Option Addr×Nat)×Nat×Nat
abbrev RR {m:Nat} (x:DX m) :Res:=Ky x.1.1.length x.1.1 x.2.2.1 x.2.2.2 x.2.1.1
abbrev xq (b:Nat) (A:Option Addr) (n c K:Nat) {m:Nat} (x:DX m) :Res:= .many [srcR b A n c K,RR x]
section
variable {n:Nat} {env:List (Nat×Value)} {w0:Bs} {Rs:List Res} {K:Act→World→Prop}
theorem L8 (k:Nat) {b m c K1 K2:Nat} {A:Option Addr} (hk:Rs[k]? =some (srcR b A m c K1)) (hK:K1≤K2) (h:At n env w0 (Rs.set k (srcR b A m c K2)) K) :At n env w0 Rs K:=fun a w hf hs=>
 h a w hf (hs.chg hk (fun hP=>srcR.more hP hK) (fun c hc=>hc) rfl)
theorem TL (k:Nat) {b T:Nat} (c:Nat) (xs:List (Int×Int)) (hk:Rs[k]? =some (.cel b T (xs.flatMap Js))) (h:At n env w0 (Rs.set k (Pc.res ⟨xs,some ⟨b,0,none⟩,c,b,b+1⟩)) K) :At n env w0 Rs K:=fun a w hf hs=>by
 have hh:=hs.cel hk
 refine h a w hf (hs.chg hk (fun hP=>jgX ⟨J,fun h0=>⟨b,0,T,_,J,jih _,Nat.lt_succ_self _,hh,fun j hj=> ?_⟩⟩ (J3 hh)) (fun q hq=> ?_) J)
 ·have hf:=fun q hq=>xH xs j q hj hq
  have h0:=hf 0 Om
  have h1:=hf 1 Om
  rw [yg hj] at h0 h1
  rw [jiL,List.getElem?_toArray,List.getElem?_toArray]
  exact⟨by simpa [Js] using h0,by simpa [Js] using h1⟩
 ·have hq':b≤q∧q<b+1:=hq
  show q=b
  omega
end
theorem SX {w w':World} {b:Nat} {Rs:List Res} (hs:St ⟨w,[b]⟩ Rs w') {ks kr kp B T n:Nat} {r:Res} {l:List Pc} {x:Option Addr×Nat} (hk:Rs[ks]? =some r) (hF:r.F b) (hr:Rs[kr]? =some (JY B T 1 n (l.map Pc.val) x)) (hp:Rs[kp]? =some (vE l)) (hne:kr≠kp) (h1:ks≠kr) (h2:ks≠kp) (hl:l.length=n)
  (hm:∀e∈l,e.xs.length≤1099511627776) :OwnG w.heap.size w'.heap.size w' x.1 n (l.map (·.xs)) :=by
 have hrow:w'.ownsRow B T 1 (.slice x.1 n x.2) n (l.map Pc.val) := (hs.all kr _ hr).1
 have hX:=hs.all kp _ hp
 rcases hrow.2 with⟨_,e⟩ |⟨g,cap,cur,e,hb,hg,hcap,hmax,hsz,htk⟩
 ·subst e
  obtain rfl:l= [] :=jiQ hl
  exact OwnG.nil _
 ·injection e with e1 e2 e3
  rw [e1]
  have hFg: (JY B T 1 n (l.map Pc.val) x).F g:=by show Value.ownBlock (.slice x.1 n x.2) =some g;rw [e1];rfl
  have hown:=Ik (lo:=w.heap.size) (o:=0) hg (((hs.all kr _ hr).2.1 g hFg).elim id (fun h=>absurd hFg (hs.apart ks kr _ _ h1 hk hr g (jik.1 h▸hF)))) (fun j hj=> ?_) hX.1 (fun h=>hs.apart kr kp _ _ hne hr hp g hFg h) (fun q hq=> (hX.2.1 q hq).elim id (fun h=>absurd hq (hs.apart ks kp _ _ h2 hk hp q (jik.1 h▸hF)))) (fun e he=>by have:=hm e he;omega)
  ·rw [hl] at hown
   exact hown
  ·have hc:cur[j]? = (l.map Pc.val)[j]? :=by rw [←htk,List.getElem?_take,if_pos Om];simp
   rw [jiL,hc]
   simp [hj]
theorem jht {w w':World} {b n c K K' m:Nat} {A:Option Addr} {x:DX m} (hP: (srcR b A n c K').P w') (hlt:b<w.heap.size) (hO:OwnG w.heap.size w'.heap.size w' x.2.1.1 x.1.1.length x.1.1) (h1:x.2.2.1=w.heap.size) (h2:x.2.2.2=w'.heap.size) :
  (xq b A n c K' x).P w'∧(∀q,(xq b A n c K' x).F q→(srcR b A n c K).F q∨w.heap.size≤q)∧(xq b A n c K' x).B=0:=by
 obtain ⟨y,⟨a,c2⟩,lo,hi⟩ :=x
 have h1:lo=w.heap.size:=h1
 have h2:hi=w'.heap.size:=h2
 subst h1 h2
 refine⟨jhB hP (jev hO (jih _)) J J (fun q hq hq2=> ?_),fun q hq=> ?_,J⟩
 ·have hq:q=b:=hq
  have hq2:w.heap.size≤q∧q<w'.heap.size:=hq2
  omega
 ·obtain ⟨r,hr,hq⟩ :=hq
  simp only [jir,ji3,or_false] at hr
  rcases hr with rfl | rfl
  ·exact .inl hq
  ·exact .inr hq.1
section
variable {b n c K:Nat} {A:Option Addr} {zs:List Int} {w:World}
def pcOk (l:List Pc) :Prop:=∀e∈l,(0<e.xs.length∧e.xs.length≤6)∧∀p∈e.xs,Ek 50 p
theorem pcOk.push {l:List Pc} (h:pcOk l) {e:Pc} (he: (0<e.xs.length∧e.xs.length≤6)∧∀p∈e.xs,Ek 50 p) :pcOk (l++ [e]) :=fun q hq=> (jiv.1 hq).elim (h q) (fun h1=>by rw [jik.1 h1];exact he)
theorem pcOk.drw {l:List Pc} (h:pcOk l) {n:Nat} (hl:l.length≤n) :FK n (l.map (·.xs)) :=⟨by rw [jit];exact hl,fun r hr=>by
 obtain ⟨e,he,rfl⟩ :=jip.1 hr
 exact h e he⟩
theorem Sj (hB:Byts w A n zs) (hne:0<n→∀p,A=some p→p.block≠b) (hP: (srcR b A n c K).P w) (hn:n≤1048576) (hK:K≤1000) :
  Calls Tryz.prog 147 #[.pointer (some ⟨b,0,none⟩), .int .i64 2, .int .i64 6] w fun e w'=>∃x:DX 2,e= .returned (qT x.2.1.1 x.1.1.length x.2.1.2)∧Wrs (srcR b A n c K).F w w'∧(xq b A n c (K+200) x).P w'∧(∀q,(xq b A n c (K+200) x).F q→(srcR b A n c K).F q∨w.heap.size≤q)∧(xq b A n c (K+200) x).B=0:=by
 have hlt:= (srcR b A n c K).low w hP b rfl
 refine Vp (m:=48) ([b]) (srcR b A n c K) (hP) (fun q hq=>jik.2 hq) J (Tryz.func147) J J (lb J) ?_;refine S3 ?_;refine aL (fun b1=> ?_);refine N3 ?_;refine a9 (JU J J (qg)) ?_;refine S1 ?_;refine aL (fun b2=> ?_);refine N7 ?_;refine Jx J J (yk J J J J J) J (lb J) (fun b3=> ?_);refine N1 ?_;refine qO (k:=0) (X:= {v:Int//v∈ [(3:Int),6,6,12,50]}) (v:=fun x=> .int .i64 x.1) (r':=fun _=>srcR b A n c (K+1)) YA rfl rfl rfl Dc rfl (fun w1 hs=>Ef (zs:=zs) _ 5 5 [3,6,6,12,50] (je2 [3,6,6,12,50] (k:=3) rfl rfl w1 hs) Dc Dc (fun p hp e=>by injection hp with hp;subst hp;exact hs.apart 0 3 _ _ Dc rfl rfl b rfl e.symm) (hB.ovx hs.over hne) hne (hs.all 0 _ rfl).1 hn Om) ?_
 rintro⟨m,hm⟩
 refine n9 ?_
 try dsimp only
 have hm0:0≤m∧m≤50:=by simp only [jir,ji3,or_false] at hm;omega
 refine S8 ?_;refine qO (k:=0) (X:= {v:Int//0≤v∧v<2}) (v:=fun x=> .int .i64 x.1) (r':=fun _=>srcR b A n c (K+2)) qk J J J Dc J (fun w1 hs=>vU (zs:=zs) 2 Dc Dc (hB.ovx hs.over hne) hne (hs.all 0 _ J).1 hn Om) ?_
 rintro⟨v1,hv1⟩
 refine n9 ?_
 try dsimp only
 refine S3 ?_;refine Q7 (T:=77) (s:=1) ?_;refine t9 ?_;refine Vq ?_;refine t9 ?_;refine S1 ?_;refine JQ (X:=Nat×(Option Addr×Nat)×List Pc) (fun x=>x.2.2.length+x.1≤2∧pcOk x.2.2) (fun x=>x.1) (fun x=> [(9, .int .i64 (x.1:Int))]) (kK [0,2,6,7,8]) (fun x=> [srcR b A n c (K+2+60*x.2.2.length), .cel b1 26 [.slice none 0 0], .cel b2 26 [.slice x.2.1.1 x.2.2.length x.2.1.2], .cel b3 2 [.int .i64 3, .int .i64 6, .int .i64 6, .int .i64 12, .int .i64 50],JY (Bs.N ⟨w,[b]⟩) 77 1 x.2.2.length (x.2.2.map Pc.val) x.2.1,vE x.2.2]) ((1+v1).toNat,(none,0),[]) (⟨by simp only [jiH];omega,fun e he=>by cases he⟩) ⟨vi Om,sz⟩ (fun _ h=>h) ?_
 intro⟨j,⟨rA,rc⟩,l⟩ hx L hL1
 refine v9 ?_;refine r9 ?_
 obtain ⟨hj,hpc⟩ :l.length+j≤2∧pcOk l:=hx
 refine S6 ?_;refine cZ (fun c1=> ?_) (fun c1=> ?_)
 ·refine S6 ?_;refine a9 (JU J J (vJ)) ?_;refine S1 ?_;refine aL (fun b4=> ?_);refine N9 ?_;refine qO (k:=0) (X:= {v:Int//0≤v∧v<6}) (v:=fun x=> .int .i64 x.1) (r':=fun _=>srcR b A n c (K+2+60*l.length+1)) qk J J J Dc J (fun w1 hs=>vU (zs:=zs) 6 Dc Dc (hB.ovx hs.over hne) hne (hs.all 0 _ J).1 hn Om) ?_
  rintro⟨v2,hv2⟩
  refine n9 ?_
  try dsimp only
  refine S3 ?_;refine Q7 (T:=56) (s:=2) ?_;refine t9 ?_;refine S1 ?_;refine JQ (X:=Nat×List Pn×Option Addr×Nat) (fun y=> (y.2.1.length+y.1≤6∧0<y.2.1.length+y.1)∧∀p∈y.2.1,Ek 50 p) (fun y=>y.1) (fun y=> [(11, .int .i64 (y.1:Int))]) (kK [0,2,6,7,8,9,20,21,24,10,25,26,27,28]) (fun y=> [srcR b A n c (K+2+60*l.length+1+8*y.2.1.length), .cel b1 26 [.slice none 0 0], .cel b2 26 [.slice rA l.length rc], .cel b3 2 [.int .i64 3, .int .i64 6, .int .i64 6, .int .i64 12, .int .i64 50],JY (Bs.N ⟨w,[b]⟩) 77 1 l.length (l.map Pc.val) (rA,rc),vE l, .cel b4 77 [.slice y.2.2.1 y.2.1.length y.2.2.2],JY (Bs.N ⟨w,[b]⟩) 56 2 y.2.1.length (y.2.1.flatMap Js) y.2.2]) ((1+v2).toNat,[],none,0) (⟨⟨by simp only [jiH];omega,by simp only [jiH];omega⟩,fun p hp=>absurd hp (by simp)⟩) ⟨vi Om,sz⟩ (fun _ h=>h) ?_
  intro⟨i,xs,pA,pc⟩ hy L hL2
  refine v9 ?_;refine r9 ?_
  obtain ⟨⟨h6,h0⟩,hbd⟩ : (xs.length+i≤6∧0<xs.length+i)∧∀p∈xs,Ek 50 p:=hy
  refine S6 ?_;refine cZ (fun c2=> ?_) (fun c2=> ?_)
  ·refine S5 ?_;refine Qx 6 [0] ?_;refine dV 0 [1] ?_;refine dK 1 ?_;refine dV 2 [4] ?_;refine dV 3 [4] ?_;refine qe (i:=4) J Dc Kr J ?_;refine qO (k:=0) (X:= {p:Pn//Ek m p}) (v:=fun x=>pV x.1) (r':=fun _=>srcR b A n c (K+2+60*l.length+1+8*xs.length+8)) LV J J J Dc J (fun w1 hs=>jbH (zs:=zs) m hm0.1 Om (hB.ovx hs.over hne) hne (hs.all 0 _ J).1 hn Om) ?_
   rintro⟨q,hq⟩
   refine n9 ?_
   try dsimp only
   refine JO (uw [0] J) ?_;refine qe (i:=5) J Dc Kr J ?_;refine Jx J J (qM J) J (lb J) (fun b5=> ?_);refine n9 ?_;refine JO (uw [0] J) ?_;refine vg J Kr J ?_;refine JV (k:=7) J jw jH Dc J Dc J J J (fun w' hs=>Qb hs (k:=8) J J) (by simp [Value.oneCell']) (by unfold maxLen;omega) Om (jih _) (fun r1=> ?_);refine n9 ?_;refine Qx 9 [6] ?_;refine dK 7 ?_;refine qe (i:=8) J Dc Kr J ?_;refine S1 ?_;refine JO (uw [6] J) ?_;refine JK Kr ?_;refine S7 ?_
   exact Ji hL2 ((i- 1,xs++ [q],r1)) (⟨⟨by simp only [jif,jim,jiH];omega,by simp only [jif,jim,jiH];omega⟩,fun p hp=> (jiv.1 hp).elim (hbd p) (fun h=>by rw [jik.1 h];obtain ⟨⟨u1,u2⟩,u3,u4⟩ :=hq;exact⟨⟨by omega,by omega⟩,by omega,by omega⟩)⟩) (by simp only;omega) ⟨vi Om,sz⟩ (fun _ h=>h.upto ⟨by rw [jif];rfl,rfl,rfl,rfl,rfl,rfl,by rw [jif];rfl,by rw [jif,jio];rfl,trivial⟩)
  ·have hi0:i=0:=Om
   refine L8 0 (K2:=K+2+60* (l.length+1)) J Om ?_;refine t9 ?_;refine S10 ?_;refine Jx J J (qH J) J (lb J) (fun b6=> ?_);refine N1 ?_;refine JV (k:=4) J jK Jw Dc J Dc J J J (fun w' hs=>Qb hs (k:=8) J J) (by simp [Value.oneCell']) (by unfold maxLen;omega) Om (jih _) (fun r2=> ?_);refine N4 ?_;refine ZY 7 J J (fun clo chi=> ?_);refine t9 ?_;refine wN 5 7 J J Dc J ?_;refine t9 ?_;refine S7 ?_
   exact Ji hL1 ((j- 1,r2,l++ [⟨xs,pA,pc,clo,chi⟩])) (⟨by simp only [jif,jim,jiH];omega,hpc.push ⟨⟨by show 0<xs.length;omega,by show xs.length≤6;omega⟩,hbd⟩⟩) (by simp only;omega) ⟨vi Om,sz⟩ (fun _ h=>h.upto ⟨by rw [jif];rfl,J,by rw [jif];rfl,J,by rw [jif,jiO];rfl,(vT _ _).symm,trivial⟩)
 ·refine S12 ?_;refine jM J (qh (k:=1) J jG J J) ?_
  intro w' hs
  exact⟨(⟨l.map (·.xs),hpc.drw Om⟩,(rA,rc),w.heap.size,w'.heap.size),by simp only [jit],yy hs,jht (srcR.more (hs.all 0 _ rfl).1 Om) hlt (by simp only [jit];exact SX hs (ks:=0) (kr:=4) (kp:=5) rfl rfl rfl rfl Dc Dc Dc rfl (fun e he=>by have:= (hpc e he).1.2;omega)) rfl rfl⟩
end
end Go.Proofs.YtpncbbcmoiiipaaGreat
