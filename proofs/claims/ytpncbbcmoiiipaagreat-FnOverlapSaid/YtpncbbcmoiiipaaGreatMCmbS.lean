import Derived.Test.YtpncbbcmoiiipaaGreatMCmbW
set_option linter.unusedVariables false
set_option linter.unusedSimpArgs false
namespace Go.Proofs.YtpncbbcmoiiipaaGreat
open Go Go.RowKit
set_option maxRecDepth 100000
set_option maxHeartbeats 4000000
theorem Nk (A:Option Addr) (n c:Nat) (rs:List jV) (w:World) (h:Rings w A n rs) (hm: (n:Int)≤9223372036854775807) :
  Calls Tryz.prog 99 #[qT A n c] w fun e w'=>e= .returned (.tuple #[qT (if JE rs=true then A else none) (if JE rs=true then n else 0) (if JE rs=true then c else 0), .int .i64 (LM rs)])∧Over w w':=by
 refine Jh (m:=8) (Tryz.func99) J J (lb J) ?_;refine S3 ?_;refine aX (fun b1=> ?_);refine N1 ?_;refine aL (fun b2=> ?_);refine N5 ?_;refine a9 (jT vD J J (fun w1 hs=>GT _ _ A n c rs w1 (qo (k:=0) J J w1 hs) (J3 (hs.cel (k:=0) J)) (h.over hs.fin) hm)) ?_;refine S2 ?_;refine cZ (fun c1=> ?_) (fun c1=> ?_)
 ·refine S2 ?_;refine a9 (JU J J (qg)) ?_;refine S6 ?_;refine qv J (qh (k:=1) J jG J J) (.tmp J) ?_
  intro w' hs
  exact⟨by simp [LM,c1],hs.fin⟩
 ·refine S10 ?_;refine qv J (qh (k:=1) J jG J J) (.tmp J) ?_
  intro w' hs
  exact⟨by simp [LM,c1],hs.fin⟩
theorem Ob (p1 q1 p2 q2:Nat) (A:Option Addr) (n c:Nat) (rs:List jV) (A2:Option Addr) (n2 c2_:Nat) (ss:List jV) (how:Int) (w:World) (hc1:w.cell? ⟨p1,q1,none⟩ =some (.slice A n c)) (hb1:p1<w.heap.size) (hc2:w.cell? ⟨p2,q2,none⟩ =some (.slice A2 n2 c2_)) (hb2:p2<w.heap.size) (h:Rings w A n rs) (h2:Rings w A2 n2 ss) (hr:JE rs=true) (hr2:JE ss=true) :
  Calls Tryz.prog 76 #[.pointer (some ⟨p1,q1,none⟩), .pointer (some ⟨p2,q2,none⟩), .int .i64 how] w fun e w'=>∃A' c',e= .returned (.tuple #[qT A' (LJ rs ss how).length c', .int .i64 (FE rs ss how)])∧OwnG w.heap.size w'.heap.size w' A' (LJ rs ss how).length (LJ rs ss how)∧Over w w':=by
 have hl:=h.1
 have hl2:=h2.1
 have ht1:= (smallR.of hr).total
 have ht2:= (smallR.of hr2).total
 have hE1:=xK hr
 have hE2:=xK hr2
 refine Jh (m:=67) (Tryz.func76) J J (lb J) ?_;refine S3 ?_;refine aL (fun b1=> ?_);refine N6 ?_;refine J4 KW (v:=fun x=> .slice x.1 (jE rs).length x.2) (r:=fun x=>JY 0 120 4 (jE rs).length ((jE rs).flatMap jZ) x) (H:=fun _=>True) J J J (lb J) (fun w1 hs=>Yt p1 q1 A n c rs w1 J (Qm hc1 hb1 w1 hs) (jiu hb1 hs.fin.size) (h.over hs.fin) (jjC ht1 Dc)) ?_
 rintro⟨eA,ec⟩ -
 refine N2 ?_;refine J4 KW (v:=fun x=> .slice x.1 (jE ss).length x.2) (r:=fun x=>JY 0 120 4 (jE ss).length ((jE ss).flatMap jZ) x) (H:=fun _=>True) J J J (lb J) (fun w1 hs=>Yt p2 q2 A2 n2 c2_ ss w1 J (Qm hc2 hb2 w1 hs) (jiu hb2 hs.fin.size) (h2.over hs.fin) (jjC ht2 Dc)) ?_
 rintro⟨fA,fc⟩ -
 refine N1 ?_;refine JV (k:=1) J Jm ku Dc J Dc J J J (fun w' hs=>jfx hs (k:=2) J) (Og _) (by unfold maxLen;omega) Om (jii _) (fun r1=> ?_);refine N2 ?_
 rw [←jio,←jif]
 rw [show jE rs++jE ss=Dn rs ss from rfl]
 refine S7 ?_;refine cZ (fun c1=> ?_) (fun c1=> ?_)
 ·refine S2 ?_;refine a9 (JU J J (qg)) ?_;refine S6 ?_;refine qv J (qh (k:=0) J jG J J) (.tmp J) ?_
  intro w' hs
  have hno:=PJ (rs:=rs) (ss:=ss) (show¬(Dn rs ss).length≤400 by omega)
  obtain ⟨e3,e4⟩ :=Mc (how:=how) hno
  exact⟨none,0,by rw [e3,e4];rfl,by rw [e3];exact OwnG.nil none,hs.fin⟩
 ·have h4: (Dn rs ss).length≤400:=Om
  have hC:CmOk rs ss:=⟨hr,hr2,h4⟩
  have hk:=hC.hot1
  have hk2:=hC.hot2
  refine S6 ?_;refine J4 Ov (v:=fun x:Option Addr×Nat=> .slice x.1 (wQ rs ss).length x.2) (r:=fun x=>JY 0 56 2 (wQ rs ss).length ((wQ rs ss).flatMap Js) x) (H:=fun _=>True) J J J (lb J) (fun w1 hs=>Qh (Nl r1.1 _ r1.2 (Dn rs ss) w1 (JC (k:=1) (x:=r1) (ls:=Dn rs ss) J J w1 hs) hC.legs h4)) ?_
  rintro⟨pA,pc⟩ -
  refine N6 ?_;refine J4 Y3 (X:= (Option Addr×Nat)×Nat×Nat) (v:=fun x=>qT x.1.1 (J8 rs).length x.1.2) (r:=fun x=>Ky (J8 rs).length (J8 rs) x.2.1 x.2.2 x.1.1) (H:=fun _=>True) J J J (lb J) (fun w1 hs=>KB (H0 p1 q1 A n c rs w1 (Qm hc1 hb1 w1 hs) (jiu hb1 hs.fin.size) (h.over hs.fin) hr)) ?_
  rintro⟨⟨gA,gc⟩,glo,ghi⟩ -
  refine N1 ?_;refine aL (fun b2=> ?_);refine N7 ?_;refine J4 Y3 (X:= (Option Addr×Nat)×Nat×Nat) (v:=fun x=>qT x.1.1 (J8 ss).length x.1.2) (r:=fun x=>Ky (J8 ss).length (J8 ss) x.2.1 x.2.2 x.1.1) (H:=fun _=>True) J J J (lb J) (fun w1 hs=>KB (H0 p2 q2 A2 n2 c2_ ss w1 (Qm hc2 hb2 w1 hs) (jiu hb2 hs.fin.size) (h2.over hs.fin) hr2)) ?_
  rintro⟨⟨kA,kc⟩,klo,khi⟩ -
  refine N1 ?_;refine aL (fun b3=> ?_);refine N7 ?_;refine J4 U6 (X:= (Option Addr×Nat)×Nat×Nat) (v:=fun x=> .tuple #[qT x.1.1 (uh rs ss).length x.1.2, .int .i64 (CV (wQ rs ss) (J8 rs)), .bool (VA rs ss)]) (r:=fun x=>Ky (uh rs ss).length (uh rs ss) x.2.1 x.2.2 x.1.1) (H:=fun _=>True) J J J (lb J) (fun w1 hs=>KB (V:=fun A' c'=> .tuple #[qT A' (uh rs ss).length c', .int .i64 (CV (wQ rs ss) (J8 rs)), .bool (VA rs ss)]) (Z2 _ _ gA _ gc (J8 rs) pA (wQ rs ss).length pc (wQ rs ss) w1 (qo (k:=5) J J w1 hs) (J3 (hs.cel (k:=5) J)) (UD (hs.all 4 _ J).1).rings hk.reg (uu (hs.all 3 _ J).1 J) hk.len hk.ok hk.nd hk.bare)) ?_
  rintro⟨⟨hA,hc⟩,hlo,hhi⟩ -
  refine N5 ?_;refine aL (fun b4=> ?_);refine N9 ?_;refine J4 U6 (X:= (Option Addr×Nat)×Nat×Nat) (v:=fun x=> .tuple #[qT x.1.1 (Wn rs ss).length x.1.2, .int .i64 (CV (wQ rs ss) (J8 ss)), .bool (WO rs ss)]) (r:=fun x=>Ky (Wn rs ss).length (Wn rs ss) x.2.1 x.2.2 x.1.1) (H:=fun _=>True) J J J (lb J) (fun w1 hs=>KB (V:=fun A' c'=> .tuple #[qT A' (Wn rs ss).length c', .int .i64 (CV (wQ rs ss) (J8 ss)), .bool (WO rs ss)]) (Z2 _ _ kA _ kc (J8 ss) pA (wQ rs ss).length pc (wQ rs ss) w1 (qo (k:=7) J J w1 hs) (J3 (hs.cel (k:=7) J)) (UD (hs.all 6 _ J).1).rings hk2.reg (uu (hs.all 3 _ J).1 J) hk2.len hk2.ok hk2.nd hk2.bare)) ?_
  rintro⟨⟨mA,mc⟩,mlo,mhi⟩ -
  refine N5 ?_;refine aL (fun b5=> ?_);refine N1 ?_;refine j9 11 jr.szx ?_;refine N4 ?_;refine qt [(51, .bool (!(VA rs ss&&WO rs ss)))] (kK [2,6,7,12,15]) (fun L h_9=> ?_) ?_
  ·refine S4 ?_;refine cV 48 (fun g1=> ?_) (fun g1=> ?_)
   ·refine S4 ?_
    exact Jk h_9 ⟨vb (by rw [g1];rfl),sz⟩ (u9 J)
   ·refine S6 ?_
    exact Jk h_9 ⟨vb (by rw [g1,jix]),sz⟩ (u9 J)
  ·refine v9 ?_;refine cZ (fun c2=> ?_) (fun c2=> ?_)
   ·refine S2 ?_;refine a9 (JU J J (qg)) ?_;refine S6 ?_;refine qv J (qh (k:=0) J jG J J) (.tmp J) ?_
    intro w' hs
    have hO: (VA rs ss&&WO rs ss) =false:= (by simpa using c2)
    obtain ⟨e3,e4⟩ :=Mc (how:=how) (jbL hO)
    exact⟨none,0,by rw [e3,e4];rfl,by rw [e3];exact OwnG.nil none,hs.fin⟩
   ·have hO: (VA rs ss&&WO rs ss) =true:= (by simpa using c2)
    have hO1:VA rs ss=true:= (by rw [jig] at hO;exact hO.1)
    have hO2:WO rs ss=true:= (by rw [jig] at hO;exact hO.2)
    have hg1:= (Zl hk hO1).1
    have hg2:= (Zl hk2 hO2).1
    have hs1:= (smallR.of hg1).total
    have hs2:= (smallR.of hg2).total
    have hTw:=hC.two hO1 hO2
    have hPr:=hC.pair hO1 hO2
    have hoT:=hC.okT hO1 hO2 how
    obtain ⟨e3,e4⟩ :=jbr (how:=how) (jbK h4 hO)
    rw [e3,e4]
    obtain ⟨E1,hE1'⟩ :∃E,E=jE (uh rs ss) :=⟨_,rfl⟩
    obtain ⟨E2,hE2'⟩ :∃E,E=jE (Wn rs ss) :=⟨_,rfl⟩
    have hBr:QG rs ss how=vn E1 E2 how:= (by rw [hE1',hE2'];rfl)
    have hf1:Fine (jE (uh rs ss)) :=yJ hg1
    have hf2:Fine (jE (Wn rs ss)) :=yJ hg2
    rw [←hE1',←hE2'] at hTw hPr
    rw [←hE1'] at hf1
    rw [←hE2'] at hf2
    have hsm:=jbb (how:=how) hTw hf1 hf2 hPr
    obtain ⟨netFst,hN1⟩ :∃N,N=Qd false E1 [] :=⟨_,rfl⟩
    obtain ⟨NL,hNL⟩ :∃N,N=Qd true E2 netFst:=⟨_,rfl⟩
    have hNe:NL=VN E1 E2:= (by rw [hNL,hN1];rfl)
    have hl1:=hTw.lnE
    have hl2':=hTw.lnF
    have hNl:NL.length≤800:= (by have:=jfF E1 E2;rw [←hNe] at this;omega)
    have hNa:∀t,aS t NL≤800:= (fun t=>by have:=jhS E1 E2 t;rw [←hNe] at this;omega)
    rw [←hNe,←hBr] at hsm
    have hBo:BoOk (QG rs ss how) := (by rw [hBr];exact xg hTw)
    have hN1l:netFst.length≤400:= (by have:=ue (s:=false) E1 [];rw [←hN1] at this;simp only [jiH] at this;omega)
    have hN1a:∀t,aS t netFst≤4096:= (fun t=>by have:=zp (s:=false) (t:=t) E1 [];rw [←hN1,jaO] at this;split at this<;>omega)
    have hNo:∀y∈NL,qN y.e:= (fun y hy=> (ZB hTw.ok hTw.ne (p:=y.e) (by rw [←Bg,←hNe];exact jip.2 ⟨_,hy,rfl⟩)).1.ok)
    refine S3 ?_;refine Q7 (T:=212) (s:=8) ?_;refine t9 ?_;refine S2 ?_;refine J4 KW (v:=fun x=> .slice x.1 E1.length x.2) (r:=fun x=>JY 0 120 4 E1.length (E1.flatMap jZ) x) (H:=fun _=>True) J J J (lb J) (fun w1 hs=>Yt _ _ hA _ hc (uh rs ss) w1 hE1' (qo (k:=9) J J w1 hs) (J3 (hs.cel (k:=9) J)) (UD (hs.all 8 _ J).1).rings (jjC hs1 Dc)) ?_
    rintro⟨xA,xc⟩ -
    refine N1 ?_;refine qO (k:=12) (X:=Option Addr×Nat) (v:=fun y=> .slice y.1 netFst.length y.2) (r':=fun y=>I5 netFst y) z6 J J J Dc J (fun w1 hs=>hN1▸Oa xA _ xc E1 false [] (none,0) w1 (y3 (hs.all 13 _ J).1 J) hTw.ok1 Om (by simp) (fun t=>by rw [jaO];omega) (jg3 _ _ _ _) (fun _ p _=>by simp [jag])) ?_
    rintro⟨lA,lc⟩
    refine N1 ?_;refine J4 KW (v:=fun x=> .slice x.1 E2.length x.2) (r:=fun x=>JY 0 120 4 E2.length (E2.flatMap jZ) x) (H:=fun _=>True) J J J (lb J) (fun w1 hs=>Yt _ _ mA _ mc (Wn rs ss) w1 hE2' (qo (k:=11) J J w1 hs) (J3 (hs.cel (k:=11) J)) (UD (hs.all 10 _ J).1).rings (jjC hs2 Dc)) ?_
    rintro⟨yA,y_c⟩ -
    refine N1 ?_;refine qO (k:=12) (X:=Option Addr×Nat) (v:=fun y=> .slice y.1 NL.length y.2) (r':=fun y=>I5 NL y) z6 J J J Dc J (fun w1 hs=>hNL▸Oa yA _ y_c E2 true netFst (lA,lc) w1 (y3 (hs.all 14 _ J).1 J) hTw.ok2 Om Om hN1a (hs.all 12 _ J).1 (fun _ p hp hb=>hs.apart 12 14 _ _ Dc J J p.block (Hm.2 hb) (by show Value.ownBlock (.slice yA E2.length y_c) =some p.block;rw [hp];rfl))) ?_
    rintro⟨zA,zc⟩
    refine N6 ?_;refine z7 (k:=12) (r':=JY 0 212 8 NL.length ((Uh NL).flatMap qq) (zA,zc)) G8 J J J Dc J (fun w1 hs=>FW NL (zA,zc) w1 (hs.all 12 _ J).1 hNo Om (fun t=>by have:=hNa t;omega)) (fun _ h=>h) J ?_;refine N6 ?_;refine J4 XU (v:=fun x:Option Addr×Nat=> .slice x.1 (QG rs ss how).length x.2) (r:=fun x=>JY 0 120 4 (QG rs ss how).length ((QG rs ss how).flatMap jZ) x) (H:=fun _=>True) J J J (lb J) (fun w1 hs=>Qh (by have:=BP NL (zA,zc) how w1 (hs.all 12 _ J).1 Om (fun t=>by have:=hNa t;omega);rw [hsm] at this;exact this)) ?_
    rintro⟨bA,bc⟩ -
    refine N1 ?_;refine J4 G9 (X:= (Option Addr×Nat)×Nat×Nat) (v:=fun x=> .slice x.1.1 (vo rs ss how).length x.1.2) (r:=fun x=>Ky (vo rs ss how).length (vo rs ss how) x.2.1 x.2.2 x.1.1) (H:=fun _=>True) J J J (lb J) (fun w1 hs=>KB (V:=fun A' c'=> .slice A' (vo rs ss how).length c') (FX bA _ bc (QG rs ss how) w1 (JC (k:=15) (x:= (bA,bc)) (ls:=QG rs ss how) J J w1 hs) hBo)) ?_
    rintro⟨⟨tA,tc⟩,tlo,thi⟩ -
    refine N1 ?_;refine J4 G7 (X:= (Option Addr×Nat)×Nat×Nat) (v:=fun x=>qT x.1.1 (vo rs ss how).length x.1.2) (r:=fun x=>Ky (vo rs ss how).length (KX (vo rs ss how)) x.2.1 x.2.2 x.1.1) (H:=fun _=>True) J J J (lb J) (fun w1 hs=>KB (V:=fun A' c'=>qT A' (vo rs ss how).length c') (FV tA _ tc (vo rs ss how) w1 (UD (hs.all 16 _ J).1).rings hoT)) ?_
    rintro⟨⟨oA,oc⟩,olo,ohi⟩ -
    refine n9 ?_;refine a9 (jT Ou J J (fun w1 hs=>Nk oA _ oc (KX (vo rs ss how)) w1 (UD (hs.all 17 _ J).1).rings (by have:=hoT.1;omega))) ?_;refine S7 ?_;refine qv J (qh (k:=0) J jG J J) (.tmp J) ?_
    intro w' hs
    have hg:=hs.all 17 _ rfl
    have ho:OwnG w.heap.size w'.heap.size w' oA (vo rs ss how).length (KX (vo rs ss how)) :=GN hg.1 (fun b hb=> (hg.2.1 b hb).elim id (fun h=>by cases h))
    have hol:=OI (vo rs ss how)
    refine⟨if JE (KX (vo rs ss how)) =true then oA else none,if JE (KX (vo rs ss how)) =true then oc else 0,?_,?_,hs.fin⟩
    cases hb:JE (KX (vo rs ss how))
    simp [GL,LM,hb]
    simp [GL,LM,hb,hol]
    cases hb:JE (KX (vo rs ss how))
    simpa [GL,hb] using OwnG.nil none
    simpa [GL,hb,hol] using ho
end Go.Proofs.YtpncbbcmoiiipaaGreat
