import Derived.Test.YtpncbbcmoiiipaaGreatKCmbW
import Derived.Test.YtpncbbcmoiiipaaGreatKOrder
import Derived.Test.YtpncbbcmoiiipaaGreatKLawKit
set_option linter.unusedVariables false
set_option linter.unusedSimpArgs false
namespace Go.Proofs.YtpncbbcmoiiipaaGreat
open Go Go.RowKit
set_option maxRecDepth 100000
set_option maxHeartbeats 4000000
theorem Nk (A:Option Addr) (n c:Nat) (rs:List jV) (w:World) (h:Rings w A n rs) (hm: (n:Int)≤9223372036854775807) :
  Calls Tryz.prog 99 #[qT A n c] w fun e w'=>e= .returned (.tuple #[qT (if JE rs=true then A else none) (if JE rs=true then n else 0) (if JE rs=true then c else 0), .int .i64 (LM rs)])∧Over w w':=by
 refine Jh (m:=8) (Tryz.func99) J J (lb J) ?_;refine S3 ?_;refine aX (fun b1=> ?_);refine N1 ?_;refine aL (fun b2=> ?_);refine N5 ?_;refine a9 (jT vD J J (fun w1 hs=>GT _ _ A n c rs w1 (qo (k:=0) J J w1 hs) (J3 (hs.cel (k:=0) J)) (h.over hs.fin) hm)) ?_;refine S2 ?_;refine cZ (fun c1=> ?_) (fun c1=> ?_)
 ·refine S2 ?_;refine a9 (JU J J (qg)) ?_;refine S6 ?_;refine qv J (qh (k:=1) J jG J J) (.tmp J) ?_
  intro w' hs
  exact⟨by simp [LM,c1],hs.fin⟩
 ·refine S10 ?_;refine qv J (qh (k:=1) J jG J J) (.tmp J) ?_
  intro w' hs
  exact⟨by simp [LM,c1],hs.fin⟩
theorem Ob (p1 q1 p2 q2:Nat) (A:Option Addr) (n c:Nat) (rs:List jV) (A2:Option Addr) (n2 c2_:Nat) (ss:List jV) (how:Int) (w:World) (hc1:w.cell? ⟨p1,q1,none⟩ =some (.slice A n c)) (hb1:p1<w.heap.size) (hc2:w.cell? ⟨p2,q2,none⟩ =some (.slice A2 n2 c2_)) (hb2:p2<w.heap.size) (h:Rings w A n rs) (h2:Rings w A2 n2 ss) (hr:JE rs=true) (hr2:JE ss=true) :
  Calls Tryz.prog 76 #[.pointer (some ⟨p1,q1,none⟩), .pointer (some ⟨p2,q2,none⟩), .int .i64 how] w fun e w'=>∃A' c',e= .returned (.tuple #[qT A' (LJ rs ss how).length c', .int .i64 (FE rs ss how)])∧OwnG w.heap.size w'.heap.size w' A' (LJ rs ss how).length (LJ rs ss how)∧Over w w':=by
 have hl:=h.1
 have hl2:=h2.1
 have ht1:= (smallR.of hr).total
 have ht2:= (smallR.of hr2).total
 have hE1:=xK hr
 have hE2:=xK hr2
 refine Jh (m:=67) (Tryz.func76) J J (lb J) ?_;refine S3 ?_;refine aL (fun b1=> ?_);refine N6 ?_;refine J4 KW (v:=fun x=> .slice x.1 (jE rs).length x.2) (r:=fun x=>JY 0 120 4 (jE rs).length ((jE rs).flatMap jZ) x) (H:=fun _=>True) J J J (lb J) (fun w1 hs=>Yt p1 q1 A n c rs w1 J (Qm hc1 hb1 w1 hs) (jiu hb1 hs.fin.size) (h.over hs.fin) (jjC ht1 Dc)) ?_
 rintro⟨eA,ec⟩ -
 refine N2 ?_;refine J4 KW (v:=fun x=> .slice x.1 (jE ss).length x.2) (r:=fun x=>JY 0 120 4 (jE ss).length ((jE ss).flatMap jZ) x) (H:=fun _=>True) J J J (lb J) (fun w1 hs=>Yt p2 q2 A2 n2 c2_ ss w1 J (Qm hc2 hb2 w1 hs) (jiu hb2 hs.fin.size) (h2.over hs.fin) (jjC ht2 Dc)) ?_
 rintro⟨fA,fc⟩ -
 refine N1 ?_;refine JV (k:=1) J Jm ku Dc J Dc J J J (fun w' hs=>jfx hs (k:=2) J) (Og _) (by unfold maxLen;omega) Om (jii _) (fun r1=> ?_);refine N2 ?_
 rw [←jio,←jif]
 rw [show jE rs++jE ss=Dn rs ss from rfl]
 refine S7 ?_;refine cZ (fun c1=> ?_) (fun c1=> ?_)
 ·refine S2 ?_;refine a9 (JU J J (qg)) ?_;refine S6 ?_;refine qv J (qh (k:=0) J jG J J) (.tmp J) ?_
  intro w' hs
  have hno:=PJ (rs:=rs) (ss:=ss) (show¬(Dn rs ss).length≤400 by omega)
  obtain ⟨e3,e4⟩ :=Mc (how:=how) hno
  exact⟨none,0,by rw [e3,e4];rfl,by rw [e3];exact OwnG.nil none,hs.fin⟩
 ·have h4: (Dn rs ss).length≤400:=Om
  have hC:CmOk rs ss:=⟨hr,hr2,h4⟩
  have hk:=hC.hot1
  have hk2:=hC.hot2
  refine S6 ?_;refine J4 Ov (v:=fun x:Option Addr×Nat=> .slice x.1 (wQ rs ss).length x.2) (r:=fun x=>JY 0 56 2 (wQ rs ss).length ((wQ rs ss).flatMap Js) x) (H:=fun _=>True) J J J (lb J) (fun w1 hs=>Qh (Nl r1.1 _ r1.2 (Dn rs ss) w1 (JC (k:=1) (x:=r1) (ls:=Dn rs ss) J J w1 hs) hC.legs h4)) ?_
  rintro⟨pA,pc⟩ -
  refine N6 ?_;refine J4 Y3 (X:= (Option Addr×Nat)×Nat×Nat) (v:=fun x=>qT x.1.1 (J8 rs).length x.1.2) (r:=fun x=>Ky (J8 rs).length (J8 rs) x.2.1 x.2.2 x.1.1) (H:=fun _=>True) J J J (lb J) (fun w1 hs=>KB (H0 p1 q1 A n c rs w1 (Qm hc1 hb1 w1 hs) (jiu hb1 hs.fin.size) (h.over hs.fin) hr)) ?_
  rintro⟨⟨gA,gc⟩,glo,ghi⟩ -
  refine N1 ?_;refine aL (fun b2=> ?_);refine N7 ?_;refine J4 Y3 (X:= (Option Addr×Nat)×Nat×Nat) (v:=fun x=>qT x.1.1 (J8 ss).length x.1.2) (r:=fun x=>Ky (J8 ss).length (J8 ss) x.2.1 x.2.2 x.1.1) (H:=fun _=>True) J J J (lb J) (fun w1 hs=>KB (H0 p2 q2 A2 n2 c2_ ss w1 (Qm hc2 hb2 w1 hs) (jiu hb2 hs.fin.size) (h2.over hs.fin) hr2)) ?_
  rintro⟨⟨kA,kc⟩,klo,khi⟩ -
  refine N1 ?_;refine aL (fun b3=> ?_);refine N7 ?_;refine J4 U6 (X:= (Option Addr×Nat)×Nat×Nat) (v:=fun x=> .tuple #[qT x.1.1 (uh rs ss).length x.1.2, .int .i64 (CV (wQ rs ss) (J8 rs)), .bool (VA rs ss)]) (r:=fun x=>Ky (uh rs ss).length (uh rs ss) x.2.1 x.2.2 x.1.1) (H:=fun _=>True) J J J (lb J) (fun w1 hs=>KB (V:=fun A' c'=> .tuple #[qT A' (uh rs ss).length c', .int .i64 (CV (wQ rs ss) (J8 rs)), .bool (VA rs ss)]) (Z2 _ _ gA _ gc (J8 rs) pA (wQ rs ss).length pc (wQ rs ss) w1 (qo (k:=5) J J w1 hs) (J3 (hs.cel (k:=5) J)) (UD (hs.all 4 _ J).1).rings hk.reg (uu (hs.all 3 _ J).1 J) hk.len hk.ok hk.nd hk.bare)) ?_
  rintro⟨⟨hA,hc⟩,hlo,hhi⟩ -
  refine N5 ?_;refine aL (fun b4=> ?_);refine N9 ?_;refine J4 U6 (X:= (Option Addr×Nat)×Nat×Nat) (v:=fun x=> .tuple #[qT x.1.1 (Wn rs ss).length x.1.2, .int .i64 (CV (wQ rs ss) (J8 ss)), .bool (WO rs ss)]) (r:=fun x=>Ky (Wn rs ss).length (Wn rs ss) x.2.1 x.2.2 x.1.1) (H:=fun _=>True) J J J (lb J) (fun w1 hs=>KB (V:=fun A' c'=> .tuple #[qT A' (Wn rs ss).length c', .int .i64 (CV (wQ rs ss) (J8 ss)), .bool (WO rs ss)]) (Z2 _ _ kA _ kc (J8 ss) pA (wQ rs ss).length pc (wQ rs ss) w1 (qo (k:=7) J J w1 hs) (J3 (hs.cel (k:=7) J)) (UD (hs.all 6 _ J).1).rings hk2.reg (uu (hs.all 3 _ J).1 J) hk2.len hk2.ok hk2.nd hk2.bare)) ?_
  rintro⟨⟨mA,mc⟩,mlo,mhi⟩ -
  refine N5 ?_;refine aL (fun b5=> ?_);refine N1 ?_;refine j9 11 jr.szx ?_;refine N4 ?_;refine qt [(51, .bool (!(VA rs ss&&WO rs ss)))] (kK [2,6,7,12,15]) (fun L h_9=> ?_) ?_
  ·refine S4 ?_;refine cV 48 (fun g1=> ?_) (fun g1=> ?_)
   ·refine S4 ?_
    exact Jk h_9 ⟨vb (by rw [g1];rfl),sz⟩ (u9 J)
   ·refine S6 ?_
    exact Jk h_9 ⟨vb (by rw [g1,jix]),sz⟩ (u9 J)
  ·refine v9 ?_;refine cZ (fun c2=> ?_) (fun c2=> ?_)
   ·refine S2 ?_;refine a9 (JU J J (qg)) ?_;refine S6 ?_;refine qv J (qh (k:=0) J jG J J) (.tmp J) ?_
    intro w' hs
    have hO: (VA rs ss&&WO rs ss) =false:= (by simpa using c2)
    obtain ⟨e3,e4⟩ :=Mc (how:=how) (jbL hO)
    exact⟨none,0,by rw [e3,e4];rfl,by rw [e3];exact OwnG.nil none,hs.fin⟩
   ·have hO: (VA rs ss&&WO rs ss) =true:= (by simpa using c2)
    have hO1:VA rs ss=true:= (by rw [jig] at hO;exact hO.1)
    have hO2:WO rs ss=true:= (by rw [jig] at hO;exact hO.2)
    have hg1:= (Zl hk hO1).1
    have hg2:= (Zl hk2 hO2).1
    have hs1:= (smallR.of hg1).total
    have hs2:= (smallR.of hg2).total
    have hTw:=hC.two hO1 hO2
    have hPr:=hC.pair hO1 hO2
    have hoT:=hC.okT hO1 hO2 how
    obtain ⟨e3,e4⟩ :=jbr (how:=how) (jbK h4 hO)
    rw [e3,e4]
    obtain ⟨E1,hE1'⟩ :∃E,E=jE (uh rs ss) :=⟨_,rfl⟩
    obtain ⟨E2,hE2'⟩ :∃E,E=jE (Wn rs ss) :=⟨_,rfl⟩
    have hBr:QG rs ss how=vn E1 E2 how:= (by rw [hE1',hE2'];rfl)
    have hf1:Fine (jE (uh rs ss)) :=yJ hg1
    have hf2:Fine (jE (Wn rs ss)) :=yJ hg2
    rw [←hE1',←hE2'] at hTw hPr
    rw [←hE1'] at hf1
    rw [←hE2'] at hf2
    have hsm:=jbb (how:=how) hTw hf1 hf2 hPr
    obtain ⟨netFst,hN1⟩ :∃N,N=Qd false E1 [] :=⟨_,rfl⟩
    obtain ⟨NL,hNL⟩ :∃N,N=Qd true E2 netFst:=⟨_,rfl⟩
    have hNe:NL=VN E1 E2:= (by rw [hNL,hN1];rfl)
    have hl1:=hTw.lnE
    have hl2':=hTw.lnF
    have hNl:NL.length≤800:= (by have:=jfF E1 E2;rw [←hNe] at this;omega)
    have hNa:∀t,aS t NL≤800:= (fun t=>by have:=jhS E1 E2 t;rw [←hNe] at this;omega)
    rw [←hNe,←hBr] at hsm
    have hBo:BoOk (QG rs ss how) := (by rw [hBr];exact xg hTw)
    have hN1l:netFst.length≤400:= (by have:=ue (s:=false) E1 [];rw [←hN1] at this;simp only [jiH] at this;omega)
    have hN1a:∀t,aS t netFst≤4096:= (fun t=>by have:=zp (s:=false) (t:=t) E1 [];rw [←hN1,jaO] at this;split at this<;>omega)
    have hNo:∀y∈NL,qN y.e:= (fun y hy=> (ZB hTw.ok hTw.ne (p:=y.e) (by rw [←Bg,←hNe];exact jip.2 ⟨_,hy,rfl⟩)).1.ok)
    refine S3 ?_;refine Q7 (T:=212) (s:=8) ?_;refine t9 ?_;refine S2 ?_;refine J4 KW (v:=fun x=> .slice x.1 E1.length x.2) (r:=fun x=>JY 0 120 4 E1.length (E1.flatMap jZ) x) (H:=fun _=>True) J J J (lb J) (fun w1 hs=>Yt _ _ hA _ hc (uh rs ss) w1 hE1' (qo (k:=9) J J w1 hs) (J3 (hs.cel (k:=9) J)) (UD (hs.all 8 _ J).1).rings (jjC hs1 Dc)) ?_
    rintro⟨xA,xc⟩ -
    refine N1 ?_;refine qO (k:=12) (X:=Option Addr×Nat) (v:=fun y=> .slice y.1 netFst.length y.2) (r':=fun y=>I5 netFst y) z6 J J J Dc J (fun w1 hs=>hN1▸Oa xA _ xc E1 false [] (none,0) w1 (y3 (hs.all 13 _ J).1 J) hTw.ok1 Om (by simp) (fun t=>by rw [jaO];omega) (jg3 _ _ _ _) (fun _ p _=>by simp [jag])) ?_
    rintro⟨lA,lc⟩
    refine N1 ?_;refine J4 KW (v:=fun x=> .slice x.1 E2.length x.2) (r:=fun x=>JY 0 120 4 E2.length (E2.flatMap jZ) x) (H:=fun _=>True) J J J (lb J) (fun w1 hs=>Yt _ _ mA _ mc (Wn rs ss) w1 hE2' (qo (k:=11) J J w1 hs) (J3 (hs.cel (k:=11) J)) (UD (hs.all 10 _ J).1).rings (jjC hs2 Dc)) ?_
    rintro⟨yA,y_c⟩ -
    refine N1 ?_;refine qO (k:=12) (X:=Option Addr×Nat) (v:=fun y=> .slice y.1 NL.length y.2) (r':=fun y=>I5 NL y) z6 J J J Dc J (fun w1 hs=>hNL▸Oa yA _ y_c E2 true netFst (lA,lc) w1 (y3 (hs.all 14 _ J).1 J) hTw.ok2 Om Om hN1a (hs.all 12 _ J).1 (fun _ p hp hb=>hs.apart 12 14 _ _ Dc J J p.block (Hm.2 hb) (by show Value.ownBlock (.slice yA E2.length y_c) =some p.block;rw [hp];rfl))) ?_
    rintro⟨zA,zc⟩
    refine N6 ?_;refine z7 (k:=12) (r':=JY 0 212 8 NL.length ((Uh NL).flatMap qq) (zA,zc)) G8 J J J Dc J (fun w1 hs=>FW NL (zA,zc) w1 (hs.all 12 _ J).1 hNo Om (fun t=>by have:=hNa t;omega)) (fun _ h=>h) J ?_;refine N6 ?_;refine J4 XU (v:=fun x:Option Addr×Nat=> .slice x.1 (QG rs ss how).length x.2) (r:=fun x=>JY 0 120 4 (QG rs ss how).length ((QG rs ss how).flatMap jZ) x) (H:=fun _=>True) J J J (lb J) (fun w1 hs=>Qh (by have:=BP NL (zA,zc) how w1 (hs.all 12 _ J).1 Om (fun t=>by have:=hNa t;omega);rw [hsm] at this;exact this)) ?_
    rintro⟨bA,bc⟩ -
    refine N1 ?_;refine J4 G9 (X:= (Option Addr×Nat)×Nat×Nat) (v:=fun x=> .slice x.1.1 (vo rs ss how).length x.1.2) (r:=fun x=>Ky (vo rs ss how).length (vo rs ss how) x.2.1 x.2.2 x.1.1) (H:=fun _=>True) J J J (lb J) (fun w1 hs=>KB (V:=fun A' c'=> .slice A' (vo rs ss how).length c') (FX bA _ bc (QG rs ss how) w1 (JC (k:=15) (x:= (bA,bc)) (ls:=QG rs ss how) J J w1 hs) hBo)) ?_
    rintro⟨⟨tA,tc⟩,tlo,thi⟩ -
    refine N1 ?_;refine J4 G7 (X:= (Option Addr×Nat)×Nat×Nat) (v:=fun x=>qT x.1.1 (vo rs ss how).length x.1.2) (r:=fun x=>Ky (vo rs ss how).length (KX (vo rs ss how)) x.2.1 x.2.2 x.1.1) (H:=fun _=>True) J J J (lb J) (fun w1 hs=>KB (V:=fun A' c'=>qT A' (vo rs ss how).length c') (FV tA _ tc (vo rs ss how) w1 (UD (hs.all 16 _ J).1).rings hoT)) ?_
    rintro⟨⟨oA,oc⟩,olo,ohi⟩ -
    refine n9 ?_;refine a9 (jT Ou J J (fun w1 hs=>Nk oA _ oc (KX (vo rs ss how)) w1 (UD (hs.all 17 _ J).1).rings (by have:=hoT.1;omega))) ?_;refine S7 ?_;refine qv J (qh (k:=0) J jG J J) (.tmp J) ?_
    intro w' hs
    have hg:=hs.all 17 _ rfl
    have ho:OwnG w.heap.size w'.heap.size w' oA (vo rs ss how).length (KX (vo rs ss how)) :=GN hg.1 (fun b hb=> (hg.2.1 b hb).elim id (fun h=>by cases h))
    have hol:=OI (vo rs ss how)
    refine⟨if JE (KX (vo rs ss how)) =true then oA else none,if JE (KX (vo rs ss how)) =true then oc else 0,?_,?_,hs.fin⟩
    cases hb:JE (KX (vo rs ss how))
    simp [GL,LM,hb]
    simp [GL,LM,hb,hol]
    cases hb:JE (KX (vo rs ss how))
    simpa [GL,hb] using OwnG.nil none
    simpa [GL,hb,hol] using ho
end Go.Proofs.YtpncbbcmoiiipaaGreat
namespace Go.Proofs.YtpncbbcmoiiipaaGreat
open Go Go.RowKit
theorem RingsC.rings {w:World} {A:Option Addr} {n:Nat} {rs:List jV} (h:RingsC w A n rs) (hs:∀r∈rs,r.length≤1048577) :Rings w A n rs:=⟨h.1,fun hn=>by
 have hl:=h.1
 obtain ⟨b,o,hA,hb,hc⟩ :=h.2 hn
 refine⟨b,o,hA,hb,fun k hk=> ?_⟩
 obtain ⟨Ak,ck,h1,h2,h3⟩ :=hc k hk
 have:=hs rs[k] (jis Om)
 rw [Wa Om] at this
 exact⟨Ak,ck,h1,h2,by omega⟩⟩
end Go.Proofs.YtpncbbcmoiiipaaGreat
namespace Go.Proofs.YtpncbbcmoiiipaaGreat
open Go Go.RowKit
set_option maxRecDepth 100000
set_option maxHeartbeats 4000000
theorem Rg (A:Option Addr) (n c:Nat) (rs:List jV) (A2:Option Addr) (n2 c2_:Nat) (ss:List jV) (w:World) (h:Rings w A n rs) (hm: (n:Int)≤9223372036854775807) (h2:Rings w A2 n2 ss) (hm2: (n2:Int)≤9223372036854775807) :
  Calls Tryz.prog 49 #[qT A n c,qT A2 n2 c2_] w fun e w'=>∃A' c',e= .returned (.tuple #[qT A' (uU rs ss 1).length c', .int .i64 (Gz rs ss 1)])∧OwnG w.heap.size w'.heap.size w' A' (uU rs ss 1).length (uU rs ss 1)∧Over w w':=by
 refine Jh (m:=11) (Tryz.func49) J J (lb J) ?_;refine S3 ?_;refine aX (fun b1=> ?_);refine N1 ?_;refine aX (fun b2=> ?_);refine N1 ?_;refine aL (fun b3=> ?_);refine N7 ?_;refine J4 Yz (X:= (Option Addr×Nat)×Nat×Nat) (v:=fun x=> .tuple #[qT x.1.1 (uU rs ss 1).length x.1.2, .int .i64 (Gz rs ss 1)]) (r:=fun x=>Ky (uU rs ss 1).length (uU rs ss 1) x.2.1 x.2.2 x.1.1) (H:=fun _=>True) J J J (lb J) (fun w1 hs=>KB (V:=fun A' c'=> .tuple #[qT A' (uU rs ss 1).length c', .int .i64 (Gz rs ss 1)]) (Z9 A n c rs A2 n2 c2_ ss 1 w1 (h.over hs.fin) hm (h2.over hs.fin) hm2)) ?_
 rintro⟨⟨oA,oc⟩,olo,ohi⟩ -
 refine N7 ?_;refine qv J (qh (k:=2) J jG J J) (.tmp J) ?_
 intro w' hs
 have hg:=hs.all 3 _ rfl
 have ho:=GN hg.1 (fun b hb=> (hg.2.1 b hb).elim id (fun h=>by cases h))
 exact⟨oA,oc,rfl,ho,hs.fin⟩
theorem jnF (A:Option Addr) (n c:Nat) (rs:List jV) (A2:Option Addr) (n2 c2_:Nat) (ss:List jV) (w:World) (h:Rings w A n rs) (hm: (n:Int)≤9223372036854775807) (h2:Rings w A2 n2 ss) (hm2: (n2:Int)≤9223372036854775807) :
  Calls Tryz.prog 51 #[qT A n c,qT A2 n2 c2_] w fun e w'=>∃A' c',e= .returned (.tuple #[qT A' (uU rs ss 3).length c', .int .i64 (Gz rs ss 3)])∧OwnG w.heap.size w'.heap.size w' A' (uU rs ss 3).length (uU rs ss 3)∧Over w w':=by
 refine Jh (m:=11) (Tryz.func51) J J (lb J) ?_;refine S3 ?_;refine aX (fun b1=> ?_);refine N1 ?_;refine aX (fun b2=> ?_);refine N1 ?_;refine aL (fun b3=> ?_);refine N7 ?_;refine J4 Yz (X:= (Option Addr×Nat)×Nat×Nat) (v:=fun x=> .tuple #[qT x.1.1 (uU rs ss 3).length x.1.2, .int .i64 (Gz rs ss 3)]) (r:=fun x=>Ky (uU rs ss 3).length (uU rs ss 3) x.2.1 x.2.2 x.1.1) (H:=fun _=>True) J J J (lb J) (fun w1 hs=>KB (V:=fun A' c'=> .tuple #[qT A' (uU rs ss 3).length c', .int .i64 (Gz rs ss 3)]) (Z9 A n c rs A2 n2 c2_ ss 3 w1 (h.over hs.fin) hm (h2.over hs.fin) hm2)) ?_
 rintro⟨⟨oA,oc⟩,olo,ohi⟩ -
 refine N7 ?_;refine qv J (qh (k:=2) J jG J J) (.tmp J) ?_
 intro w' hs
 have hg:=hs.all 3 _ rfl
 have ho:=GN hg.1 (fun b hb=> (hg.2.1 b hb).elim id (fun h=>by cases h))
 exact⟨oA,oc,rfl,ho,hs.fin⟩
theorem jc8 (w:World) :Rings w none 0 [] :=⟨rfl,fun h=>absurd h Dc⟩
theorem jgj {rs:List jV} (h:JE rs=true) :uU rs [] 1=LJ rs [] 1∧Gz rs [] 1=FE rs [] 1:=jfL (by rw [xh,h];rfl) rfl
theorem Cd {n:Nat} {rs:List jV} (hl:rs.length=n) (ht: (total rs:Int)≤1048576) : (n:Int)≤9223372036854775807:=by
 unfold total at ht
 omega
theorem VD (A:Option Addr) (n c:Nat) (rs:List jV) (w:World) (h:Rings w A n rs) (ht: (total rs:Int)≤1048576) :
  Calls Tryz.prog 38 #[qT A n c] w fun e w'=>∃A' c',e= .returned (.tuple #[qT A' (uU rs [] 1).length c', .int .i64 (Gz rs [] 1)])∧OwnG w.heap.size w'.heap.size w' A' (uU rs [] 1).length (uU rs [] 1)∧Over w w':=by
 refine Jh (m:=9) (Tryz.func38) J J (lb J) ?_;refine S3 ?_;refine aX (fun b1=> ?_);refine N1 ?_;refine aL (fun b2=> ?_);refine N5 ?_;refine a9 (JU J J (qg)) ?_;refine S1 ?_;refine J4 LR (X:= (Option Addr×Nat)×Nat×Nat) (v:=fun x=> .tuple #[qT x.1.1 (uU rs [] 1).length x.1.2, .int .i64 (Gz rs [] 1)]) (r:=fun x=>Ky (uU rs [] 1).length (uU rs [] 1) x.2.1 x.2.2 x.1.1) (H:=fun _=>True) J J J (lb J) (fun w1 hs=>KB (V:=fun A' c'=> .tuple #[qT A' (uU rs [] 1).length c', .int .i64 (Gz rs [] 1)]) (Rg A n c rs none 0 0 [] w1 (h.over hs.fin) (Cd h.1 ht) (jc8 w1) Dc)) ?_
 rintro⟨⟨oA,oc⟩,olo,ohi⟩ -
 refine N7 ?_;refine qv J (qh (k:=1) J jG J J) (.tmp J) ?_
 intro w' hs
 have hg:=hs.all 2 _ rfl
 have ho:=GN hg.1 (fun b hb=> (hg.2.1 b hb).elim id (fun h=>by cases h))
 exact⟨oA,oc,rfl,ho,hs.fin⟩
theorem zl (A:Option Addr) (n c:Nat) (rs:List jV) (w:World) (h:Rings w A n rs) (ht: (total rs:Int)≤1048576) :
  Calls Tryz.prog 39 #[qT A n c] w fun e w'=>∃A' c',e= .returned (.tuple #[qT A' (uU rs [] 1).length c', .int .i64 (Gz rs [] 1)])∧OwnG w.heap.size w'.heap.size w' A' (uU rs [] 1).length (uU rs [] 1)∧Over w w':=by
 refine Jh (m:=12) (Tryz.func39) J J (lb J) ?_;refine S3 ?_;refine aX (fun b1=> ?_);refine N1 ?_;refine aL (fun b2=> ?_);refine N5 ?_;refine a9 (jT vD J J (fun w1 hs=>GT _ _ A n c rs w1 (qo (k:=0) J J w1 hs) (J3 (hs.cel (k:=0) J)) (h.over hs.fin) (Cd h.1 ht))) ?_;refine S2 ?_;refine cZ (fun c1=> ?_) (fun c1=> ?_)
 ·refine S2 ?_;refine a9 (JU J J (qg)) ?_;refine S6 ?_;refine qv J (qh (k:=1) J jG J J) (.tmp J) ?_
  intro w' hs
  obtain ⟨e1,e2⟩ :=jbj (ss:= []) (how:=1) (rs:=rs) (by rw [xh];simp [c1])
  exact⟨none,0,by rw [e1,e2];rfl,by rw [e1];exact OwnG.nil none,hs.fin⟩
 ·have hr:JE rs=true:= (by simpa using c1)
  obtain ⟨e1,e2⟩ :=jgj hr
  rw [e1,e2]
  refine S4 ?_;refine a9 (JU J J (qg)) ?_;refine S1 ?_;refine aX (fun b3=> ?_);refine N1 ?_;refine J4 xD (X:= (Option Addr×Nat)×Nat×Nat) (v:=fun x=> .tuple #[qT x.1.1 (LJ rs [] 1).length x.1.2, .int .i64 (FE rs [] 1)]) (r:=fun x=>Ky (LJ rs [] 1).length (LJ rs [] 1) x.2.1 x.2.2 x.1.1) (H:=fun _=>True) J J J (lb J) (fun w1 hs=>KB (V:=fun A' c'=> .tuple #[qT A' (LJ rs [] 1).length c', .int .i64 (FE rs [] 1)]) (Ob _ _ _ _ A n c rs none 0 0 [] 1 w1 (qo (k:=0) J J w1 hs) (J3 (hs.cel (k:=0) J)) (qo (k:=2) J J w1 hs) (J3 (hs.cel (k:=2) J)) (h.over hs.fin) (jc8 w1) hr J)) ?_
  rintro⟨⟨oA,oc⟩,olo,ohi⟩ -
  refine N7 ?_;refine qv J (qh (k:=1) J jG J J) (.tmp J) ?_
  intro w' hs
  have hg:=hs.all 3 _ rfl
  have ho:=GN hg.1 (fun b hb=> (hg.2.1 b hb).elim id (fun h=>by cases h))
  exact⟨oA,oc,rfl,ho,hs.fin⟩
def clB (rs:List jV) :Bool:=Gz rs [] 1==0&&decide (uU rs [] 1=rs)
theorem jgk (rs:List jV) (how:Int) {ss:List jV} : ((uU rs ss how).length:Int)≤1048576:=by
 have:= (Et rs ss how).total
 unfold total at this
 omega
theorem Rf (A:Option Addr) (n c:Nat) (rs:List jV) (w:World) (h:Rings w A n rs) (ht: (total rs:Int)≤1048576) :
  Calls Tryz.prog 44 #[qT A n c] w fun e w'=>e= .returned (.bool (clB rs))∧Over w w':=by
 have hl:=h.1
 have hm: (n:Int)≤9223372036854775807:=by unfold total at ht;omega
 refine Jh (m:=17) (Tryz.func44) J J (lb J) ?_;refine S3 ?_;refine aX (fun b1=> ?_);refine N6 ?_;refine J4 K8 (X:= (Option Addr×Nat)×Nat×Nat) (v:=fun x=> .tuple #[qT x.1.1 (uU rs [] 1).length x.1.2, .int .i64 (Gz rs [] 1)]) (r:=fun x=>Ky (uU rs [] 1).length (uU rs [] 1) x.2.1 x.2.2 x.1.1) (H:=fun _=>True) J J J (lb J) (fun w1 hs=>KB (V:=fun A' c'=> .tuple #[qT A' (uU rs [] 1).length c', .int .i64 (Gz rs [] 1)]) (VD A n c rs w1 (h.over hs.fin) ht)) ?_
 rintro⟨⟨oA,oc⟩,olo,ohi⟩ -
 refine N4 ?_;refine aL (fun b2=> ?_);refine N9 ?_;refine cV 12 (fun g1=> ?_) (fun g1=> ?_)
 ·refine S5 ?_;refine o9 (jT UI J J (fun w1 hs=>zo _ A _ n _ c (uU rs [] 1) rs w1 (UD (hs.all 1 _ J).1).rings (h.over hs.fin) (jjC (jgk rs 1) Dc))) ?_;refine S4 ?_;refine jM J (.tmp J) ?_
  intro w' hs
  exact⟨QH (by simp [clB,g1]),hs.fin⟩
 ·refine S7 ?_;refine jM J (.tmp J) ?_
  intro w' hs
  exact⟨QH (by simp [clB,g1]),hs.fin⟩
theorem jmy (A:Option Addr) (n c:Nat) (rs:List jV) (w:World) (h:Rings w A n rs) (ht: (total rs:Int)≤1048576) :
  Calls Tryz.prog 143 #[qT A n c] w fun e w'=>e= .returned (.bool (clB rs))∧Over w w':=by
 have hl:=h.1
 have hm: (n:Int)≤9223372036854775807:=by unfold total at ht;omega
 refine Jh (m:=17) (Tryz.func143) J J (lb J) ?_;refine S3 ?_;refine aX (fun b1=> ?_);refine N6 ?_;refine J4 zg (X:= (Option Addr×Nat)×Nat×Nat) (v:=fun x=> .tuple #[qT x.1.1 (uU rs [] 1).length x.1.2, .int .i64 (Gz rs [] 1)]) (r:=fun x=>Ky (uU rs [] 1).length (uU rs [] 1) x.2.1 x.2.2 x.1.1) (H:=fun _=>True) J J J (lb J) (fun w1 hs=>KB (V:=fun A' c'=> .tuple #[qT A' (uU rs [] 1).length c', .int .i64 (Gz rs [] 1)]) (zl A n c rs w1 (h.over hs.fin) ht)) ?_
 rintro⟨⟨oA,oc⟩,olo,ohi⟩ -
 refine N4 ?_;refine aL (fun b2=> ?_);refine N9 ?_;refine cV 12 (fun g1=> ?_) (fun g1=> ?_)
 ·refine S5 ?_;refine o9 (jT Wh J J (fun w1 hs=>Wj _ A _ n _ c (uU rs [] 1) rs w1 (UD (hs.all 1 _ J).1).rings (h.over hs.fin) (Et rs [] 1).total ht)) ?_;refine S4 ?_;refine jM J (.tmp J) ?_
  intro w' hs
  exact⟨QH (by simp [clB,g1]),hs.fin⟩
 ·refine S7 ?_;refine jM J (.tmp J) ?_
  intro w' hs
  exact⟨QH (by simp [clB,g1]),hs.fin⟩
end Go.Proofs.YtpncbbcmoiiipaaGreat
