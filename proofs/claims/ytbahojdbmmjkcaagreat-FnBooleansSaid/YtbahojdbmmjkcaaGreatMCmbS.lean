import Derived.Test.YtbahojdbmmjkcaaGreatMCmbW
import Derived.Test.YtbahojdbmmjkcaaGreatMOrder
import Derived.Test.YtbahojdbmmjkcaaGreatMOwn
import Derived.Test.YtbahojdbmmjkcaaGreatMFit
import Derived.Test.YtbahojdbmmjkcaaGreatMWind2
import Derived.Test.YtbahojdbmmjkcaaGreatMTrQ
import Derived.Test.YtbahojdbmmjkcaaGreatMThin
set_option linter.unusedVariables false
set_option linter.unusedSimpArgs false
namespace Go.Proofs.YtbahojdbmmjkcaaGreat
open Go Go.RowKit
set_option maxRecDepth 100000
set_option maxHeartbeats 4000000
theorem Pg (A:Option Addr) (n c:Nat) (rs:List jO) (w:World) (h:Rings w A n rs) (hm: (n:Int)≤9223372036854775807) :
  Calls Tryz.prog 47 #[qr A n c] w fun e w'=>e= .returned (.tuple #[qr (if Jp rs=true then A else none) (if Jp rs=true then n else 0) (if Jp rs=true then c else 0), .int .i64 (Ze rs)])∧Over w w':=by
 refine j6 (m:=8) (Tryz.func47) J J (lb J) ?_;refine S3 ?_;refine aX (fun b1=> ?_);refine N1 ?_;refine aL (fun b2=> ?_);refine N5 ?_;refine a9 (jM kw J J (fun w1 hs=>ZZ _ _ A n c rs w1 (qi (k:=0) J J w1 hs) (JT (hs.cel (k:=0) J)) (h.over hs.fin) hm)) ?_;refine S2 ?_;refine cZ (fun c1=> ?_) (fun c1=> ?_)
 ·refine S2 ?_;refine a9 (JR J J (J9)) ?_;refine S6 ?_;refine qh J (J8 (k:=1) J jv J J) (.tmp J) ?_
  intro w' hs
  exact⟨by simp [Ze,c1],hs.fin⟩
 ·refine S10 ?_;refine qh J (J8 (k:=1) J jv J J) (.tmp J) ?_
  intro w' hs
  exact⟨by simp [Ze,c1],hs.fin⟩
theorem OS (p1 q1 p2 q2:Nat) (A:Option Addr) (n c:Nat) (rs:List jO) (A2:Option Addr) (n2 c2_:Nat) (ss:List jO) (how:Int) (w:World) (hc1:w.cell? ⟨p1,q1,none⟩ =some (.slice A n c)) (hb1:p1<w.heap.size) (hc2:w.cell? ⟨p2,q2,none⟩ =some (.slice A2 n2 c2_)) (hb2:p2<w.heap.size) (h:Rings w A n rs) (h2:Rings w A2 n2 ss) (hr:Jp rs=true) (hr2:Jp ss=true) :
  Calls Tryz.prog 125 #[.pointer (some ⟨p1,q1,none⟩), .pointer (some ⟨p2,q2,none⟩), .int .i64 how] w fun e w'=>∃A' c',e= .returned (.tuple #[qr A' (RB rs ss how).length c', .int .i64 (Co rs ss how)])∧OwnG w.heap.size w'.heap.size w' A' (RB rs ss how).length (RB rs ss how)∧Over w w':=by
 have hl:=h.1
 have hl2:=h2.1
 have ht1:= (smallR.of hr).total
 have ht2:= (smallR.of hr2).total
 have hE1:=YY hr
 have hE2:=YY hr2
 refine j6 (m:=67) (Tryz.func125) J J (lb J) ?_;refine S3 ?_;refine aL (fun b1=> ?_);refine N6 ?_;refine JU K3 (v:=fun x=> .slice x.1 (jt rs).length x.2) (r:=fun x=>J3 0 147 4 (jt rs).length ((jt rs).flatMap Ji) x) (H:=fun _=>True) J J J (lb J) (fun w1 hs=>YP p1 q1 A n c rs w1 J (Qi hc1 hb1 w1 hs) (jjy hb1 hs.fin.size) (h.over hs.fin) (jkF ht1 Dc)) ?_
 rintro⟨eA,ec⟩ -
 refine N2 ?_;refine JU K3 (v:=fun x=> .slice x.1 (jt ss).length x.2) (r:=fun x=>J3 0 147 4 (jt ss).length ((jt ss).flatMap Ji) x) (H:=fun _=>True) J J J (lb J) (fun w1 hs=>YP p2 q2 A2 n2 c2_ ss w1 J (Qi hc2 hb2 w1 hs) (jjy hb2 hs.fin.size) (h2.over hs.fin) (jkF ht2 Dc)) ?_
 rintro⟨fA,fc⟩ -
 refine N1 ?_;refine JY (k:=1) J Ju kq Dc J Dc J J J (fun w' hs=>jgm hs (k:=2) J) (OX _) (by unfold maxLen;omega) Om (jjo _) (fun r1=> ?_);refine N2 ?_
 rw [←jjv,←jjk]
 rw [show jt rs++jt ss=D1 rs ss from rfl]
 refine S7 ?_;refine cZ (fun c1=> ?_) (fun c1=> ?_)
 ·refine S2 ?_;refine a9 (JR J J (J9)) ?_;refine S6 ?_;refine qh J (J8 (k:=0) J jv J J) (.tmp J) ?_
  intro w' hs
  have hno:=CA (rs:=rs) (ss:=ss) (show¬(D1 rs ss).length≤400 by omega)
  obtain ⟨e3,e4⟩ :=MD (how:=how) hno
  exact⟨none,0,by rw [e3,e4];rfl,by rw [e3];exact OwnG.nil none,hs.fin⟩
 ·have h4: (D1 rs ss).length≤400:=Om
  have hC:CmOk rs ss:=⟨hr,hr2,h4⟩
  have hk:=hC.hot1
  have hk2:=hC.hot2
  refine S6 ?_;refine JU Zu (v:=fun x:Option Addr×Nat=> .slice x.1 (Wl rs ss).length x.2) (r:=fun x=>J3 0 28 2 (Wl rs ss).length ((Wl rs ss).flatMap Jr) x) (H:=fun _=>True) J J J (lb J) (fun w1 hs=>Qf (ON r1.1 _ r1.2 (D1 rs ss) w1 (Vr (k:=1) (x:=r1) (ls:=D1 rs ss) J J w1 hs) hC.legs h4)) ?_
  rintro⟨pA,pc⟩ -
  refine N6 ?_;refine JU Ul (X:= (Option Addr×Nat)×Nat×Nat) (v:=fun x=>qr x.1.1 (JO rs).length x.1.2) (r:=fun x=>kI (JO rs).length (JO rs) x.2.1 x.2.2 x.1.1) (H:=fun _=>True) J J J (lb J) (fun w1 hs=>Q6 (Zn p1 q1 A n c rs w1 (Qi hc1 hb1 w1 hs) (jjy hb1 hs.fin.size) (h.over hs.fin) hr)) ?_
  rintro⟨⟨gA,gc⟩,glo,ghi⟩ -
  refine N1 ?_;refine aL (fun b2=> ?_);refine N7 ?_;refine JU Ul (X:= (Option Addr×Nat)×Nat×Nat) (v:=fun x=>qr x.1.1 (JO ss).length x.1.2) (r:=fun x=>kI (JO ss).length (JO ss) x.2.1 x.2.2 x.1.1) (H:=fun _=>True) J J J (lb J) (fun w1 hs=>Q6 (Zn p2 q2 A2 n2 c2_ ss w1 (Qi hc2 hb2 w1 hs) (jjy hb2 hs.fin.size) (h2.over hs.fin) hr2)) ?_
  rintro⟨⟨kA,kc⟩,klo,khi⟩ -
  refine N1 ?_;refine aL (fun b3=> ?_);refine N7 ?_;refine JU W7 (X:= (Option Addr×Nat)×Nat×Nat) (v:=fun x=> .tuple #[qr x.1.1 (V4 rs ss).length x.1.2, .int .i64 (Rl (Wl rs ss) (JO rs)), .bool (wD rs ss)]) (r:=fun x=>kI (V4 rs ss).length (V4 rs ss) x.2.1 x.2.2 x.1.1) (H:=fun _=>True) J J J (lb J) (fun w1 hs=>Q6 (V:=fun A' c'=> .tuple #[qr A' (V4 rs ss).length c', .int .i64 (Rl (Wl rs ss) (JO rs)), .bool (wD rs ss)]) (yE _ _ gA _ gc (JO rs) pA (Wl rs ss).length pc (Wl rs ss) w1 (qi (k:=5) J J w1 hs) (JT (hs.cel (k:=5) J)) (UE (hs.all 4 _ J).1).rings hk.reg (ub (hs.all 3 _ J).1 J) hk.len hk.ok hk.nd hk.bare)) ?_
  rintro⟨⟨hA,hc⟩,hlo,hhi⟩ -
  refine N5 ?_;refine aL (fun b4=> ?_);refine N9 ?_;refine JU W7 (X:= (Option Addr×Nat)×Nat×Nat) (v:=fun x=> .tuple #[qr x.1.1 (VP rs ss).length x.1.2, .int .i64 (Rl (Wl rs ss) (JO ss)), .bool (WV rs ss)]) (r:=fun x=>kI (VP rs ss).length (VP rs ss) x.2.1 x.2.2 x.1.1) (H:=fun _=>True) J J J (lb J) (fun w1 hs=>Q6 (V:=fun A' c'=> .tuple #[qr A' (VP rs ss).length c', .int .i64 (Rl (Wl rs ss) (JO ss)), .bool (WV rs ss)]) (yE _ _ kA _ kc (JO ss) pA (Wl rs ss).length pc (Wl rs ss) w1 (qi (k:=7) J J w1 hs) (JT (hs.cel (k:=7) J)) (UE (hs.all 6 _ J).1).rings hk2.reg (ub (hs.all 3 _ J).1 J) hk2.len hk2.ok hk2.nd hk2.bare)) ?_
  rintro⟨⟨mA,mc⟩,mlo,mhi⟩ -
  refine N5 ?_;refine aL (fun b5=> ?_);refine N1 ?_;refine j9 11 jq.szx ?_;refine N4 ?_;refine qt [(51, .bool (!(wD rs ss&&WV rs ss)))] (kK [2,6,7,12,15]) (fun L h_9=> ?_) ?_
  ·refine S4 ?_;refine cV 48 (fun g1=> ?_) (fun g1=> ?_)
   ·refine S4 ?_
    exact Jo h_9 ⟨vb (by rw [g1];rfl),sz⟩ (u9 J)
   ·refine S6 ?_
    exact Jo h_9 ⟨vb (by rw [g1,jjG]),sz⟩ (u9 J)
  ·refine v9 ?_;refine cZ (fun c2=> ?_) (fun c2=> ?_)
   ·refine S2 ?_;refine a9 (JR J J (J9)) ?_;refine S6 ?_;refine qh J (J8 (k:=0) J jv J J) (.tmp J) ?_
    intro w' hs
    have hO: (wD rs ss&&WV rs ss) =false:= (by simpa using c2)
    obtain ⟨e3,e4⟩ :=MD (how:=how) (jcu hO)
    exact⟨none,0,by rw [e3,e4];rfl,by rw [e3];exact OwnG.nil none,hs.fin⟩
   ·have hO: (wD rs ss&&WV rs ss) =true:= (by simpa using c2)
    have hO1:wD rs ss=true:= (by rw [jjl] at hO;exact hO.1)
    have hO2:WV rs ss=true:= (by rw [jjl] at hO;exact hO.2)
    have hg1:= (ZK hk hO1).1
    have hg2:= (ZK hk2 hO2).1
    have hs1:= (smallR.of hg1).total
    have hs2:= (smallR.of hg2).total
    have hTw:=hC.two hO1 hO2
    have hPr:=hC.pair hO1 hO2
    have hoT:=hC.okT hO1 hO2 how
    obtain ⟨e3,e4⟩ :=jcb (how:=how) (jct h4 hO)
    rw [e3,e4]
    obtain ⟨E1,hE1'⟩ :∃E,E=jt (V4 rs ss) :=⟨_,rfl⟩
    obtain ⟨E2,hE2'⟩ :∃E,E=jt (VP rs ss) :=⟨_,rfl⟩
    have hBr:Qp rs ss how=vH E1 E2 how:= (by rw [hE1',hE2'];rfl)
    have hf1:Fine (jt (V4 rs ss)) :=y8 hg1
    have hf2:Fine (jt (VP rs ss)) :=y8 hg2
    rw [←hE1',←hE2'] at hTw hPr
    rw [←hE1'] at hf1
    rw [←hE2'] at hf2
    have hsm:=jbU (how:=how) hTw hf1 hf2 hPr
    obtain ⟨netFst,hN1⟩ :∃N,N=Qe false E1 [] :=⟨_,rfl⟩
    obtain ⟨NL,hNL⟩ :∃N,N=Qe true E2 netFst:=⟨_,rfl⟩
    have hNe:NL=VY E1 E2:= (by rw [hNL,hN1];rfl)
    have hl1:=hTw.lnE
    have hl2':=hTw.lnF
    have hNl:NL.length≤800:= (by have:=jgu E1 E2;rw [←hNe] at this;omega)
    have hNa:∀t,aS t NL≤800:= (fun t=>by have:=jiR E1 E2 t;rw [←hNe] at this;omega)
    rw [←hNe,←hBr] at hsm
    have hBo:BoOk (Qp rs ss how) := (by rw [hBr];exact xJ hTw)
    have hN1l:netFst.length≤400:= (by have:=uA (s:=false) E1 [];rw [←hN1] at this;simp only [jjK] at this;omega)
    have hN1a:∀t,aS t netFst≤4096:= (fun t=>by have:=zM (s:=false) (t:=t) E1 [];rw [←hN1,jbv] at this;split at this<;>omega)
    have hNo:∀y∈NL,qM y.e:= (fun y hy=> (ZY hTw.ok hTw.ne (p:=y.e) (by rw [←BU,←hNe];exact jjx.2 ⟨_,hy,rfl⟩)).1.ok)
    refine S3 ?_;refine kt (T:=262) (s:=8) ?_;refine t9 ?_;refine S2 ?_;refine JU K3 (v:=fun x=> .slice x.1 E1.length x.2) (r:=fun x=>J3 0 147 4 E1.length (E1.flatMap Ji) x) (H:=fun _=>True) J J J (lb J) (fun w1 hs=>YP _ _ hA _ hc (V4 rs ss) w1 hE1' (qi (k:=9) J J w1 hs) (JT (hs.cel (k:=9) J)) (UE (hs.all 8 _ J).1).rings (jkF hs1 Dc)) ?_
    rintro⟨xA,xc⟩ -
    refine N1 ?_;refine qN (k:=12) (X:=Option Addr×Nat) (v:=fun y=> .slice y.1 netFst.length y.2) (r':=fun y=>RH netFst y) Zw J J J Dc J (fun w1 hs=>hN1▸OQ xA _ xc E1 false [] (none,0) w1 (Yp (hs.all 13 _ J).1 J) hTw.ok1 Om (by simp) (fun t=>by rw [jbv];omega) (jhT _ _ _ _) (fun _ p _=>by simp [jaW])) ?_
    rintro⟨lA,lc⟩
    refine N1 ?_;refine JU K3 (v:=fun x=> .slice x.1 E2.length x.2) (r:=fun x=>J3 0 147 4 E2.length (E2.flatMap Ji) x) (H:=fun _=>True) J J J (lb J) (fun w1 hs=>YP _ _ mA _ mc (VP rs ss) w1 hE2' (qi (k:=11) J J w1 hs) (JT (hs.cel (k:=11) J)) (UE (hs.all 10 _ J).1).rings (jkF hs2 Dc)) ?_
    rintro⟨yA,y_c⟩ -
    refine N1 ?_;refine qN (k:=12) (X:=Option Addr×Nat) (v:=fun y=> .slice y.1 NL.length y.2) (r':=fun y=>RH NL y) Zw J J J Dc J (fun w1 hs=>hNL▸OQ yA _ y_c E2 true netFst (lA,lc) w1 (Yp (hs.all 14 _ J).1 J) hTw.ok2 Om Om hN1a (hs.all 12 _ J).1 (fun _ p hp hb=>hs.apart 12 14 _ _ Dc J J p.block (HY.2 hb) (by show Value.ownBlock (.slice yA E2.length y_c) =some p.block;rw [hp];rfl))) ?_
    rintro⟨zA,zc⟩
    refine N6 ?_;refine Zx (k:=12) (r':=J3 0 262 8 NL.length ((Uy NL).flatMap qo) (zA,zc)) HJ J J J Dc J (fun w1 hs=>IA NL (zA,zc) w1 (hs.all 12 _ J).1 hNo Om (fun t=>by have:=hNa t;omega)) (fun _ h=>h) J ?_;refine N6 ?_;refine JU Gs (v:=fun x:Option Addr×Nat=> .slice x.1 (Qp rs ss how).length x.2) (r:=fun x=>J3 0 147 4 (Qp rs ss how).length ((Qp rs ss how).flatMap Ji) x) (H:=fun _=>True) J J J (lb J) (fun w1 hs=>Qf (by have:=Dx NL (zA,zc) how w1 (hs.all 12 _ J).1 Om (fun t=>by have:=hNa t;omega);rw [hsm] at this;exact this)) ?_
    rintro⟨bA,bc⟩ -
    refine N1 ?_;refine JU HK (X:= (Option Addr×Nat)×Nat×Nat) (v:=fun x=> .slice x.1.1 (vJ rs ss how).length x.1.2) (r:=fun x=>kI (vJ rs ss how).length (vJ rs ss how) x.2.1 x.2.2 x.1.1) (H:=fun _=>True) J J J (lb J) (fun w1 hs=>Q6 (V:=fun A' c'=> .slice A' (vJ rs ss how).length c') (IB bA _ bc (Qp rs ss how) w1 (Vr (k:=15) (x:= (bA,bc)) (ls:=Qp rs ss how) J J w1 hs) hBo)) ?_
    rintro⟨⟨tA,tc⟩,tlo,thi⟩ -
    refine N1 ?_;refine JU HI (X:= (Option Addr×Nat)×Nat×Nat) (v:=fun x=>qr x.1.1 (vJ rs ss how).length x.1.2) (r:=fun x=>kI (vJ rs ss how).length (vw (vJ rs ss how)) x.2.1 x.2.2 x.1.1) (H:=fun _=>True) J J J (lb J) (fun w1 hs=>Q6 (V:=fun A' c'=>qr A' (vJ rs ss how).length c') (Iz tA _ tc (vJ rs ss how) w1 (UE (hs.all 16 _ J).1).rings hoT)) ?_
    rintro⟨⟨oA,oc⟩,olo,ohi⟩ -
    refine n9 ?_;refine a9 (jM Zt J J (fun w1 hs=>Pg oA _ oc (vw (vJ rs ss how)) w1 (UE (hs.all 17 _ J).1).rings (by have:=hoT.1;omega))) ?_;refine S7 ?_;refine qh J (J8 (k:=0) J jv J J) (.tmp J) ?_
    intro w' hs
    have hg:=hs.all 17 _ rfl
    have ho:OwnG w.heap.size w'.heap.size w' oA (vJ rs ss how).length (vw (vJ rs ss how)) :=yC hg.1 (fun b hb=> (hg.2.1 b hb).elim id (fun h=>by cases h))
    have hol:=Bn (vJ rs ss how)
    refine⟨if Jp (vw (vJ rs ss how)) =true then oA else none,if Jp (vw (vJ rs ss how)) =true then oc else 0,?_,?_,hs.fin⟩
    cases hb:Jp (vw (vJ rs ss how))
    simp [Zf,Ze,hb]
    simp [Zf,Ze,hb,hol]
    cases hb:Jp (vw (vJ rs ss how))
    simpa [Zf,hb] using OwnG.nil none
    simpa [Zf,hb,hol] using ho
theorem Y7 (A:Option Addr) (n c:Nat) (rs:List jO) (A2:Option Addr) (n2 c2_:Nat) (ss:List jO) (how:Int) (w:World) (h:Rings w A n rs) (hm: (n:Int)≤9223372036854775807) (h2:Rings w A2 n2 ss) (hm2: (n2:Int)≤9223372036854775807) :
  Calls Tryz.prog 62 #[qr A n c,qr A2 n2 c2_, .int .i64 how] w fun e w'=>∃A' c',e= .returned (.tuple #[qr A' (kS rs ss how).length c', .int .i64 (uY rs ss how)])∧OwnG w.heap.size w'.heap.size w' A' (kS rs ss how).length (kS rs ss how)∧Over w w':=by
 have hl:=h.1
 have hl2:=h2.1
 refine j6 (m:=23) (Tryz.func62) J J (lb J) ?_;refine S3 ?_;refine aX (fun b1=> ?_);refine N1 ?_;refine aX (fun b2=> ?_);refine N1 ?_;refine aL (fun b3=> ?_);refine N3 ?_;refine qt [(13, .bool (!YI rs ss))] (kK [2,3,4,6,7]) (fun L h_1=> ?_) ?_
 ·refine S1 ?_;refine a9 (jM kw J J (fun w1 hs=>ZZ _ _ A n c rs w1 (qi (k:=0) J J w1 hs) (JT (hs.cel (k:=0) J)) (h.over hs.fin) hm)) ?_;refine S2 ?_;refine cV 10 (fun g1=> ?_) (fun g1=> ?_)
  ·refine S4 ?_
   exact Jo h_1 ⟨vb (by rw [YI,g1];rfl),sz⟩ (u9 J)
  ·refine h9 ?_;refine o9 (jM kw J J (fun w1 hs=>ZZ _ _ A2 n2 c2_ ss w1 (qi (k:=1) J J w1 hs) (JT (hs.cel (k:=1) J)) (h2.over hs.fin) hm2)) ?_;refine S4 ?_
   exact Jo h_1 ⟨vb (by rw [YI,g1];rfl),sz⟩ (u9 J)
 ·refine v9 ?_;refine cZ (fun c1=> ?_) (fun c1=> ?_)
  ·refine S2 ?_;refine a9 (JR J J (J9)) ?_;refine S6 ?_;refine qh J (J8 (k:=2) J jv J J) (.tmp J) ?_
   intro w' hs
   obtain ⟨e1,e2⟩ :=jb2 (how:=how) (by simpa using c1)
   exact⟨none,0,by rw [e1,e2];rfl,by rw [e1];exact OwnG.nil none,hs.fin⟩
  ·have hin:YI rs ss=true:= (by simpa using c1)
   refine S6 ?_;refine a9 (jM yI J J (fun w1 hs=> (uH _ _ _ w1).mono fun e w2 h=>⟨h.1,h.2▸Over.refl _⟩)) ?_;refine S2 ?_;refine cZ (fun c2=> ?_) (fun c2=> ?_)
   ·refine S2 ?_;refine a9 (JR J J (J9)) ?_;refine S6 ?_;refine qh J (J8 (k:=2) J jv J J) (.tmp J) ?_
    intro w' hs
    obtain ⟨e1,e2⟩ :=jb3 (how:=how) hin (by rw [show Zj how=ZX how 1 4 from rfl];simpa using c2)
    exact⟨none,0,by rw [e1,e2];rfl,by rw [e1];exact OwnG.nil none,hs.fin⟩
   ·obtain ⟨e1,e2⟩ :=jgz (how:=how) hin (by rw [show Zj how=ZX how 1 4 from rfl];simpa using c2)
    rw [e1,e2]
    have hr:Jp rs=true:= (by have:=hin;rw [YI,jjl] at this;exact this.1)
    have hr2:Jp ss=true:= (by have:=hin;rw [YI,jjl] at this;exact this.2)
    refine S6 ?_;refine JU Xd (X:= (Option Addr×Nat)×Nat×Nat) (v:=fun x=> .tuple #[qr x.1.1 (RB rs ss how).length x.1.2, .int .i64 (Co rs ss how)]) (r:=fun x=>kI (RB rs ss how).length (RB rs ss how) x.2.1 x.2.2 x.1.1) (H:=fun _=>True) J J J (lb J) (fun w1 hs=>Q6 (V:=fun A' c'=> .tuple #[qr A' (RB rs ss how).length c', .int .i64 (Co rs ss how)]) (OS _ _ _ _ A n c rs A2 n2 c2_ ss how w1 (qi (k:=0) J J w1 hs) (JT (hs.cel (k:=0) J)) (qi (k:=1) J J w1 hs) (JT (hs.cel (k:=1) J)) (h.over hs.fin) (h2.over hs.fin) hr hr2)) ?_
    rintro⟨⟨oA,oc⟩,olo,ohi⟩ -
    refine N7 ?_;refine qh J (J8 (k:=2) J jv J J) (.tmp J) ?_
    intro w' hs
    have hg:=hs.all 3 _ rfl
    have ho:=yC hg.1 (fun b hb=> (hg.2.1 b hb).elim id (fun h=>by cases h))
    exact⟨oA,oc,rfl,ho,hs.fin⟩
end Go.Proofs.YtbahojdbmmjkcaaGreat
namespace Go.Proofs.YtbahojdbmmjkcaaGreat
open Go Go.RowKit
theorem RingsC.rings {w:World} {A:Option Addr} {n:Nat} {rs:List jO} (h:RingsC w A n rs) (hs:∀r∈rs,r.length≤1048577) :Rings w A n rs:=⟨h.1,fun hn=>by
 have hl:=h.1
 obtain ⟨b,o,hA,hb,hc⟩ :=h.2 hn
 refine⟨b,o,hA,hb,fun k hk=> ?_⟩
 obtain ⟨Ak,ck,h1,h2,h3⟩ :=hc k hk
 have:=hs rs[k] (jju Om)
 rw [wu Om] at this
 exact⟨Ak,ck,h1,h2,by omega⟩⟩
end Go.Proofs.YtbahojdbmmjkcaaGreat
namespace Go.Proofs.YtbahojdbmmjkcaaGreat
open Go Go.RowKit
set_option maxRecDepth 100000
set_option maxHeartbeats 4000000
theorem RR (A:Option Addr) (n c:Nat) (rs:List jO) (A2:Option Addr) (n2 c2_:Nat) (ss:List jO) (w:World) (h:Rings w A n rs) (hm: (n:Int)≤9223372036854775807) (h2:Rings w A2 n2 ss) (hm2: (n2:Int)≤9223372036854775807) :
  Calls Tryz.prog 11 #[qr A n c,qr A2 n2 c2_] w fun e w'=>∃A' c',e= .returned (.tuple #[qr A' (kS rs ss 1).length c', .int .i64 (uY rs ss 1)])∧OwnG w.heap.size w'.heap.size w' A' (kS rs ss 1).length (kS rs ss 1)∧Over w w':=by
 refine j6 (m:=11) (Tryz.func11) J J (lb J) ?_;refine S3 ?_;refine aX (fun b1=> ?_);refine N1 ?_;refine aX (fun b2=> ?_);refine N1 ?_;refine aL (fun b3=> ?_);refine N7 ?_;refine JU KF (X:= (Option Addr×Nat)×Nat×Nat) (v:=fun x=> .tuple #[qr x.1.1 (kS rs ss 1).length x.1.2, .int .i64 (uY rs ss 1)]) (r:=fun x=>kI (kS rs ss 1).length (kS rs ss 1) x.2.1 x.2.2 x.1.1) (H:=fun _=>True) J J J (lb J) (fun w1 hs=>Q6 (V:=fun A' c'=> .tuple #[qr A' (kS rs ss 1).length c', .int .i64 (uY rs ss 1)]) (Vh A n c rs A2 n2 c2_ ss 1 w1 (h.over hs.fin) hm (h2.over hs.fin) hm2)) ?_
 rintro⟨⟨oA,oc⟩,olo,ohi⟩ -
 refine N7 ?_;refine qh J (J8 (k:=2) J jv J J) (.tmp J) ?_
 intro w' hs
 have hg:=hs.all 3 _ rfl
 have ho:=yC hg.1 (fun b hb=> (hg.2.1 b hb).elim id (fun h=>by cases h))
 exact⟨oA,oc,rfl,ho,hs.fin⟩
theorem My (A:Option Addr) (n c:Nat) (rs:List jO) (A2:Option Addr) (n2 c2_:Nat) (ss:List jO) (w:World) (h:Rings w A n rs) (hm: (n:Int)≤9223372036854775807) (h2:Rings w A2 n2 ss) (hm2: (n2:Int)≤9223372036854775807) :
  Calls Tryz.prog 15 #[qr A n c,qr A2 n2 c2_] w fun e w'=>∃A' c',e= .returned (.tuple #[qr A' (kS rs ss 1).length c', .int .i64 (uY rs ss 1)])∧OwnG w.heap.size w'.heap.size w' A' (kS rs ss 1).length (kS rs ss 1)∧Over w w':=by
 refine j6 (m:=11) (Tryz.func15) J J (lb J) ?_;refine S3 ?_;refine aX (fun b1=> ?_);refine N1 ?_;refine aX (fun b2=> ?_);refine N1 ?_;refine aL (fun b3=> ?_);refine N7 ?_;refine JU YV (X:= (Option Addr×Nat)×Nat×Nat) (v:=fun x=> .tuple #[qr x.1.1 (kS rs ss 1).length x.1.2, .int .i64 (uY rs ss 1)]) (r:=fun x=>kI (kS rs ss 1).length (kS rs ss 1) x.2.1 x.2.2 x.1.1) (H:=fun _=>True) J J J (lb J) (fun w1 hs=>Q6 (V:=fun A' c'=> .tuple #[qr A' (kS rs ss 1).length c', .int .i64 (uY rs ss 1)]) (Y7 A n c rs A2 n2 c2_ ss 1 w1 (h.over hs.fin) hm (h2.over hs.fin) hm2)) ?_
 rintro⟨⟨oA,oc⟩,olo,ohi⟩ -
 refine N7 ?_;refine qh J (J8 (k:=2) J jv J J) (.tmp J) ?_
 intro w' hs
 have hg:=hs.all 3 _ rfl
 have ho:=yC hg.1 (fun b hb=> (hg.2.1 b hb).elim id (fun h=>by cases h))
 exact⟨oA,oc,rfl,ho,hs.fin⟩
theorem Nq (A:Option Addr) (n c:Nat) (rs:List jO) (A2:Option Addr) (n2 c2_:Nat) (ss:List jO) (w:World) (h:Rings w A n rs) (hm: (n:Int)≤9223372036854775807) (h2:Rings w A2 n2 ss) (hm2: (n2:Int)≤9223372036854775807) :
  Calls Tryz.prog 12 #[qr A n c,qr A2 n2 c2_] w fun e w'=>∃A' c',e= .returned (.tuple #[qr A' (kS rs ss 2).length c', .int .i64 (uY rs ss 2)])∧OwnG w.heap.size w'.heap.size w' A' (kS rs ss 2).length (kS rs ss 2)∧Over w w':=by
 refine j6 (m:=11) (Tryz.func12) J J (lb J) ?_;refine S3 ?_;refine aX (fun b1=> ?_);refine N1 ?_;refine aX (fun b2=> ?_);refine N1 ?_;refine aL (fun b3=> ?_);refine N7 ?_;refine JU KF (X:= (Option Addr×Nat)×Nat×Nat) (v:=fun x=> .tuple #[qr x.1.1 (kS rs ss 2).length x.1.2, .int .i64 (uY rs ss 2)]) (r:=fun x=>kI (kS rs ss 2).length (kS rs ss 2) x.2.1 x.2.2 x.1.1) (H:=fun _=>True) J J J (lb J) (fun w1 hs=>Q6 (V:=fun A' c'=> .tuple #[qr A' (kS rs ss 2).length c', .int .i64 (uY rs ss 2)]) (Vh A n c rs A2 n2 c2_ ss 2 w1 (h.over hs.fin) hm (h2.over hs.fin) hm2)) ?_
 rintro⟨⟨oA,oc⟩,olo,ohi⟩ -
 refine N7 ?_;refine qh J (J8 (k:=2) J jv J J) (.tmp J) ?_
 intro w' hs
 have hg:=hs.all 3 _ rfl
 have ho:=yC hg.1 (fun b hb=> (hg.2.1 b hb).elim id (fun h=>by cases h))
 exact⟨oA,oc,rfl,ho,hs.fin⟩
theorem Lo (A:Option Addr) (n c:Nat) (rs:List jO) (A2:Option Addr) (n2 c2_:Nat) (ss:List jO) (w:World) (h:Rings w A n rs) (hm: (n:Int)≤9223372036854775807) (h2:Rings w A2 n2 ss) (hm2: (n2:Int)≤9223372036854775807) :
  Calls Tryz.prog 13 #[qr A n c,qr A2 n2 c2_] w fun e w'=>∃A' c',e= .returned (.tuple #[qr A' (kS rs ss 3).length c', .int .i64 (uY rs ss 3)])∧OwnG w.heap.size w'.heap.size w' A' (kS rs ss 3).length (kS rs ss 3)∧Over w w':=by
 refine j6 (m:=11) (Tryz.func13) J J (lb J) ?_;refine S3 ?_;refine aX (fun b1=> ?_);refine N1 ?_;refine aX (fun b2=> ?_);refine N1 ?_;refine aL (fun b3=> ?_);refine N7 ?_;refine JU KF (X:= (Option Addr×Nat)×Nat×Nat) (v:=fun x=> .tuple #[qr x.1.1 (kS rs ss 3).length x.1.2, .int .i64 (uY rs ss 3)]) (r:=fun x=>kI (kS rs ss 3).length (kS rs ss 3) x.2.1 x.2.2 x.1.1) (H:=fun _=>True) J J J (lb J) (fun w1 hs=>Q6 (V:=fun A' c'=> .tuple #[qr A' (kS rs ss 3).length c', .int .i64 (uY rs ss 3)]) (Vh A n c rs A2 n2 c2_ ss 3 w1 (h.over hs.fin) hm (h2.over hs.fin) hm2)) ?_
 rintro⟨⟨oA,oc⟩,olo,ohi⟩ -
 refine N7 ?_;refine qh J (J8 (k:=2) J jv J J) (.tmp J) ?_
 intro w' hs
 have hg:=hs.all 3 _ rfl
 have ho:=yC hg.1 (fun b hb=> (hg.2.1 b hb).elim id (fun h=>by cases h))
 exact⟨oA,oc,rfl,ho,hs.fin⟩
end Go.Proofs.YtbahojdbmmjkcaaGreat
namespace Go.Proofs.YtbahojdbmmjkcaaGreat
open Go Go.RowKit
variable {d how:Int} {k:Nat} {p:Pn} {r:jO} {rs ss:List jO}
theorem je2 (h:Co rs ss how=0) :UY rs ss=true∧Jp (vw (vJ rs ss how)) =true∧RB rs ss how=vw (vJ rs ss how) :=by
 unfold Co at h
 split at h
 ·rename_i hf
  unfold Ze at h
  split at h
  ·rename_i hg
   exact⟨hf,hg,by unfold RB Zf;rw [if_pos hf,if_pos hg]⟩
  ·omega
 ·omega
theorem jif (h1:Jp rs=true) (h2:Jp ss=true) (hh:Zj how=true) :kS rs ss how=RB rs ss how∧uY rs ss how=Co rs ss how:=by
 have h:YI rs ss=true:=by unfold YI;rw [h1,h2];rfl
 exact⟨by unfold kS;rw [if_pos h,if_pos hh],by unfold uY;rw [if_pos h,if_pos hh]⟩
def nrR (r:jO) (p:Pn) (d:Int) :Bool:= (List.range r.length).any fun k=>Ua (pt r k) (pt r (nx r k)) p d
def nrA (rs:List jO) (p:Pn) (d:Int) :Bool:=rs.any fun r=>nrR r p d
theorem jhA (h:∀q,q<r.length→Ua (pt r q) (pt r (nx r q)) p d=false) :nrR r p d=false:=
 jld.2 fun k hk=>by rw [h k (jko.1 hk)];decide
theorem jfJ (hk:k<r.length) (h:Ua (pt r k) (pt r (nx r k)) p d=true) :nrR r p d=true:=
 List.any_eq_true.2 ⟨k,jko.2 hk,h⟩
theorem jhz (h:∀q,q<rs.length→nrR (rg rs q) p d=false) :nrA rs p d=false:=
 jld.2 fun r hr=>by
  obtain ⟨j,hj,rfl⟩ :=jj0 hr
  rw [wu hj,h j hj]
  decide
theorem jfI (hk:k<rs.length) (h:nrR (rg rs k) p d=true) :nrA rs p d=true:=
 List.any_eq_true.2 ⟨rg rs k,by rw [←wu hk];exact jju _,h⟩
theorem xS {xs:jO} {e:Leg} :∀k,e∈qy xs k→∃j,j<k∧lA e=pt xs j∧lB e=pt xs (nx xs j)
 | 0,h=>by simp [qy] at h
 | k+1,h=>by
  rw [Kb] at h
  split at h
  ·obtain ⟨j,hj,e1⟩ :=xS k h
   exact⟨j,by omega,e1⟩
  ·rcases jjz.1 h with h | h
   ·obtain ⟨j,hj,e1⟩ :=xS k h
    exact⟨j,by omega,e1⟩
   ·rw [jjp.1 h]
    exact⟨k,by omega,rfl,rfl⟩
theorem jdl (h:nrA rs p d=false) :∀e∈jt rs,Ua (lA e) (lB e) p d=false:=fun e he=>by
 obtain ⟨r,hr,he⟩ :=uU.1 he
 obtain ⟨j,hj,e1,e2⟩ :=xS _ he
 have h1:=jld.1 h r hr
 have h2:=jld.1 (Bool.not_eq_true _▸h1) j (jko.2 hj)
 rw [e1,e2]
 exact Bool.not_eq_true _▸h2
theorem jeG {E:List Leg} (h:∀e∈E,WW (lA e) (lB e) p=false) :XB false E p.1 p.2=false:=
 jld.2 fun e he=>by
  rw [NH]
  have:onL e p.1 p.2=WW (lA e) (lB e) p:=rfl
  rw [this,h e he]
  decide
theorem jf5 (h:Jp rs=true) : (total rs:Int)≤1048576:=jkF (smallR.of h).total Dc
theorem Ed {xs:List Pn} (h:k<xs.length) :pt xs k∈xs:=by rw [←Kg h];exact jju h
section
variable {w:World} {Rs:List Res}
end
end Go.Proofs.YtbahojdbmmjkcaaGreat
namespace Go.Proofs.YtbahojdbmmjkcaaGreat
open Go Go.RowKit
variable {j:Nat} {rs ss:List jO}
set_option maxRecDepth 100000
set_option maxHeartbeats 4000000
theorem OO (b1_ o1:Nat) (A:Option Addr) (n c:Nat) (xs:List (Int×Int)) (w:World) (hcell:w.cell? ⟨b1_,o1,none⟩ =some (.slice A n c)) (hb1:b1_<w.heap.size) (h:Pts w A n xs) (hn:0<n) (hn2:n≤1048577) :
  Calls Tryz.prog 71 #[.pointer (some ⟨b1_,o1,none⟩)] w fun e w'=>∃x:Option Addr×Nat,e= .returned (.agg #[.slice x.1 n x.2])∧Over w w'∧(J3 0 28 2 n (xs.flatMap Jr) x).P w'∧(∀b,(J3 0 28 2 n (xs.flatMap Jr) x).F b→w.heap.size≤b)∧(J3 0 28 2 n (xs.flatMap Jr) x).B=0∧True:=by
 obtain ⟨b,o,rfl,_⟩ :=h.2 hn
 refine j6 (m:=10) (Tryz.func71) J J (lb J) ?_;refine S3 ?_;refine aL (fun b1=> ?_);refine N4 ?_;refine Jy J J (KR) J (lb J) (fun b2=> ?_);refine Wi 1 2 J J ?_;refine N3 ?_;refine a9 (jo J J JH (QW hcell hb1)) ?_;refine S1 ?_;refine JY (k:=1) J jD jI Dc J Dc J J J (fun w' hs=>BK (h.over hs.fin) hn) (wj _) (by unfold maxLen;omega) Om (jjm _) (fun r1=> ?_);refine n9 ?_;refine a9 (JR J J (vm J)) ?_;refine S4 ?_;refine jK J (J8 (k:=0) J JP J J) ?_
 intro w' hs
 have hr0:w'.ownsRow w.heap.size 28 2 (.slice r1.1 (0+n) r1.2) (0+n) (xs.flatMap Jr) := (hs.all 1 _ rfl).1
 rw [jjP] at hr0
 exact⟨r1,by rw [jjP],hs.fin,UJ hr0 (jjo _),fun b hb=> (hr0.lt b hb).1,sz⟩
theorem rdC {w:World} {Rs:List Res} {b o k:Nat} {v:Value} (hc:w.cell? ⟨b,o+k,none⟩ =some v) (hb:b<w.heap.size) (w':World) (hs:St ⟨w,[]⟩ Rs w') :w'.cell? ⟨b,o+k*1,none⟩ =some v:=by rw [jki];exact Qi hc hb w' hs
theorem jf6 (h:j<rs.length) :rg (rs++ss) j=rg rs j:=by simp [rg,List.getD,List.getElem?_append_left h]
theorem jf7 (h:rs.length≤j) :rg (rs++ss) j=rg ss (j- rs.length) :=by simp [rg,List.getD,List.getElem?_append_right h]
theorem Ff (hr:Jp rs=true) (hr2:Jp ss=true) (j:Nat) (hj:j< (rs++ss).length) :0< (rg (rs++ss) j).length∧(rg (rs++ss) j).length≤400:=by
 rw [jjk] at hj
 by_cases h:j<rs.length
 ·rw [jf6 h];exact qW (kE hr h)
 ·rw [jf7 Om];exact qW (kE hr2 Om)
theorem SZ (b1_ o1 b2_ o2:Nat) (A A2:Option Addr) (n c n2 c2_:Nat) (rs ss:List jO) (w:World) (hcl:w.cell? ⟨b1_,o1,none⟩ =some (.slice A n c)) (hbl:b1_<w.heap.size) (hcl2:w.cell? ⟨b2_,o2,none⟩ =some (.slice A2 n2 c2_)) (hbl2:b2_<w.heap.size) (h:Rings w A n rs) (h2:Rings w A2 n2 ss) (hr:Jp rs=true) (hr2:Jp ss=true) :
  Calls Tryz.prog 48 #[.pointer (some ⟨b1_,o1,none⟩), .pointer (some ⟨b2_,o2,none⟩)] w fun e w'=>∃A' c',e= .returned (qr A' (n+n2) c')∧OwnG w.heap.size w'.heap.size w' A' (n+n2) (rs++ss)∧Over w w':=by
 have hl:=h.1
 have hl2:=h2.1
 have hn40:=vx hr
 have hn40':=vx hr2
 refine j6 (m:=52) (Tryz.func48) J J (lb J) ?_;refine S3 ?_;refine aL (fun b1=> ?_);refine N3 ?_;refine a9 (JR J J (J9)) ?_;refine S1 ?_;refine aL (fun b2=> ?_);refine N3 ?_;refine kt (T:=74) (s:=1) ?_;refine t9 ?_;refine Vz ?_;refine t9 ?_;refine S6 ?_;refine JX (X:=Nat×(Option Addr×Nat)×List Pc) (fun x=>x.1≤n∧x.2.2.map (·.xs) =rs.take x.1) (fun x=>n- x.1) (fun x=> [(6, .int .i64 (x.1:Int))]) (kK [0,1,4,5]) (fun x=> [.cel b1 26 [.slice none 0 0], .cel b2 26 [.slice x.2.1.1 x.1 x.2.1.2],J3 (Bs.N ⟨w,[]⟩) 74 1 x.1 (x.2.2.map Pc.val) x.2.1,vF x.2.2]) (0,(none,0),[]) (⟨jjo _,J⟩) ⟨J,sz⟩ (fun _ h=>h) ?_
 intro⟨k,⟨rA,rc⟩,l⟩ hx L hL1
 refine v9 ?_;refine r9 ?_
 have hk:k≤n:=hx.1
 have hmp:l.map (·.xs) =rs.take k:=hx.2
 have hlk:l.length=k:=by have:=congrArg List.length hmp;rw [jjB,jjC] at this;omega
 refine S7 ?_;refine a9 (jo J J JL (QW hcl hbl)) ?_;refine S3 ?_;refine cZ (fun c1=> ?_) (fun c1=> ?_)
 ·have hlt:k<n:=Om
  obtain ⟨bb,oo,Ak,ck,rfl,hbB,hcell,hpts,hmax⟩ :=h.at_ hlt
  have hpos:=qW (kE hr (show k<rs.length by omega))
  refine S5 ?_;refine JS 10 ?_;refine dV 0 [1] ?_;refine dK 1 ?_;refine dV 2 [3,4,5,7,8] ?_;refine dV 3 [4,5,7,8] ?_;refine dV 4 [5,7,8] ?_;refine d9 5 J [7,8] (u9 J) (jo J J JL (QW hcl hbl)) ?_;refine dV 6 [7,8] ?_;refine dV 7 [8] ?_;refine J7 (i:=8) J Dc Kr J ?_;refine JU Zv (X:=Option Addr×Nat) (v:=fun x=> .agg #[.slice x.1 _ x.2]) (r:=fun x=>J3 0 28 2 _ _ x) (H:=fun _=>True) J J J (lb J) (fun w1 hs=>OO _ _ Ak _ ck (rg rs k) w1 (rdC hcell hbB w1 hs) (jjy hbB hs.fin.size) (hpts.over hs.fin) hpos.1 Om) ?_
  rintro⟨cA,cc⟩ -
  refine n9 ?_;refine UD (u9 J) ?_;refine J7 (i:=9) J Dc Kr J ?_;refine Jy J J (qz J) J (lb J) (fun b3=> ?_);refine n9 ?_;refine JN (u9 J) ?_;refine KV J Kr J ?_;refine JY (k:=2) J jJ Jw Dc J Dc J J J (fun w' hs=>Qb hs (k:=5) J J) (by simp [Value.oneCell']) (by unfold maxLen;omega) Om (jjm _) (fun r1=> ?_);refine n9 ?_;refine Qv 13 [1] ?_;refine dK 11 ?_;refine J7 (i:=12) J Dc Kr J ?_;refine S1 ?_;refine JN (uw [1] J) ?_;refine JJ Kr ?_;refine zR 4 J J (fun clo chi=> ?_);refine t9 ?_;refine wt 3 4 J J Dc J ?_;refine t9 ?_;refine S7 ?_
  exact Jq hL1 ((k+1,r1,l++ [⟨rg rs k,cA,cc,clo,chi⟩])) (⟨show k+1≤n by omega,by rw [jjQ,hmp,VO Om];rfl⟩) (by simp only;omega) ⟨vi Om,sz⟩ (fun _ h=>h.upto ⟨J,J,by rw [jjQ];rfl,(vo _ _).symm,trivial⟩)
 ·have hkn:k=n:=Om
  subst hkn
  have hrs:l.map (·.xs) =rs:=by rw [hmp,jjR Om]
  refine S11 ?_;refine JX (X:=Nat×(Option Addr×Nat)×List Pc) (fun x=>x.1≤n2∧x.2.2.map (·.xs) =rs++ss.take x.1) (fun x=>n2- x.1) (fun x=> [(7, .int .i64 (x.1:Int))]) (kK [1,4,5]) (fun x=> [.cel b1 26 [.slice none 0 0], .cel b2 26 [.slice x.2.1.1 (k+x.1) x.2.1.2],J3 (Bs.N ⟨w,[]⟩) 74 1 (k+x.1) (x.2.2.map Pc.val) x.2.1,vF x.2.2]) (0,(rA,rc),l) (⟨jjo _,by rw [hrs];simp⟩) ⟨J,sz⟩ (fun _ h=>h) ?_
  intro⟨j,⟨qA,qc⟩,m⟩ hy L hL2
  refine v9 ?_;refine r9 ?_
  have hj:j≤n2:=hy.1
  have hmq:m.map (·.xs) =rs++ss.take j:=hy.2
  have hlm:m.length=k+j:=by have:=congrArg List.length hmq;rw [jjB,jjk,jjC] at this;omega
  refine S7 ?_;refine a9 (jo J J JL (QW hcl2 hbl2)) ?_;refine S3 ?_;refine cZ (fun c2=> ?_) (fun c2=> ?_)
  ·have hlt:j<n2:=Om
   obtain ⟨bb,oo,Ak,ck,rfl,hbB,hcell,hpts,hmax⟩ :=h2.at_ hlt
   have hpos:=qW (kE hr2 (show j<ss.length by omega))
   refine S5 ?_;refine JS 10 ?_;refine dV 0 [1] ?_;refine dK 1 ?_;refine dV 2 [3,4,5,7,8] ?_;refine dV 3 [4,5,7,8] ?_;refine dV 4 [5,7,8] ?_;refine d9 5 J [7,8] (u9 J) (jo J J JL (QW hcl2 hbl2)) ?_;refine dV 6 [7,8] ?_;refine dV 7 [8] ?_;refine J7 (i:=8) J Dc Kr J ?_;refine JU Zv (X:=Option Addr×Nat) (v:=fun x=> .agg #[.slice x.1 _ x.2]) (r:=fun x=>J3 0 28 2 _ _ x) (H:=fun _=>True) J J J (lb J) (fun w1 hs=>OO _ _ Ak _ ck (rg ss j) w1 (rdC hcell hbB w1 hs) (jjy hbB hs.fin.size) (hpts.over hs.fin) hpos.1 Om) ?_
   rintro⟨cA,cc⟩ -
   refine n9 ?_;refine UD (u9 J) ?_;refine J7 (i:=9) J Dc Kr J ?_;refine Jy J J (qz J) J (lb J) (fun b4=> ?_);refine n9 ?_;refine JN (u9 J) ?_;refine KV J Kr J ?_;refine JY (k:=2) J jJ Jw Dc J Dc J J J (fun w' hs=>Qb hs (k:=5) J J) (by simp [Value.oneCell']) (by unfold maxLen;omega) Om (jjm _) (fun r2=> ?_);refine n9 ?_;refine Qv 13 [1] ?_;refine dK 11 ?_;refine J7 (i:=12) J Dc Kr J ?_;refine S1 ?_;refine JN (uw [1] J) ?_;refine JJ Kr ?_;refine zR 4 J J (fun clo chi=> ?_);refine t9 ?_;refine wt 3 4 J J Dc J ?_;refine t9 ?_;refine S7 ?_
   exact Jq hL2 ((j+1,r2,m++ [⟨rg ss j,cA,cc,clo,chi⟩])) (⟨show j+1≤n2 by omega,by rw [jjQ,hmq,VO Om,jjq];rfl⟩) (by simp only;omega) ⟨vi Om,sz⟩ (fun _ h=>h.upto ⟨J,J,by rw [jjQ];rfl,(vo _ _).symm,trivial⟩)
  ·have hjn:j=n2:=Om
   refine S12 ?_;refine jK J (J8 (k:=0) J jv J J) ?_
   intro w' hs
   subst hjn
   have hss:m.map (·.xs) =rs++ss:=by rw [hmq,jjR Om]
   exact⟨qA,qc,rfl,IZ hs (kr:=2) (kp:=3) rfl rfl Dc rfl hlm hss (fun i hi=>by have:=Ff hr hr2 i hi;omega),hs.fin⟩
section
variable {n:Nat} {env:List (Nat×Value)} {w0:Bs} {Rs:List Res} {K:Act→World→Prop}
end
def jnR (rs ss:List jO) :List jO:=if(Jp rs&&Jp ss) =true then Zf (rs++ss) else []
def jnC (rs ss:List jO) :Int:=if(Jp rs&&Jp ss) =true then Ze (rs++ss) else 1
theorem Pb (hr:Jp rs=true) (hr2:Jp ss=true) : (total (rs++ss) :Int)≤1048577:=by
 have:smallR (rs++ss) :=⟨by have:=vx hr;have:=vx hr2;rw [jjk];omega,fun j hj=>by have:=Ff hr hr2 j hj;omega⟩
 have:=this.total
 omega
theorem Pf (A:Option Addr) (n c:Nat) (rs:List jO) (w:World) (h:Rings w A n rs) (ht: (total rs:Int)≤1048577) :
  Calls Tryz.prog 47 #[qr A n c] w fun e w'=>e= .returned (.tuple #[qr (if Jp rs=true then A else none) (if Jp rs=true then n else 0) (if Jp rs=true then c else 0), .int .i64 (Ze rs)])∧Over w w':=by
 refine j6 (m:=8) (Tryz.func47) J J (lb J) ?_;refine S3 ?_;refine aX (fun b1=> ?_);refine N1 ?_;refine aL (fun b2=> ?_);refine N5 ?_;refine a9 (jM kw J J (fun w1 hs=>UR _ _ A n c rs w1 (qi (k:=0) J J w1 hs) (JT (hs.cel (k:=0) J)) (h.over hs.fin) ht)) ?_;refine S2 ?_;refine cZ (fun c1=> ?_) (fun c1=> ?_)
 ·refine S2 ?_;refine a9 (JR J J (J9)) ?_;refine S6 ?_;refine qh J (J8 (k:=1) J jv J J) (.tmp J) ?_
  intro w' hs
  exact⟨by simp [Ze,c1],hs.fin⟩
 ·refine S10 ?_;refine qh J (J8 (k:=1) J jv J J) (.tmp J) ?_
  intro w' hs
  exact⟨by simp [Ze,c1],hs.fin⟩
theorem xp (A A2:Option Addr) (n c n2 c2_:Nat) (rs ss:List jO) (w:World) (h:Rings w A n rs) (h2:Rings w A2 n2 ss) (ht: (total rs:Int)≤1048577) (ht2: (total ss:Int)≤1048577) :
  Calls Tryz.prog 9 #[qr A n c,qr A2 n2 c2_] w fun e w'=>∃A' c',e= .returned (.tuple #[qr A' (jnR rs ss).length c', .int .i64 (jnC rs ss)])∧OwnG w.heap.size w'.heap.size w' A' (jnR rs ss).length (jnR rs ss)∧Over w w':=by
 have hl:=h.1
 have hl2:=h2.1
 refine j6 (m:=17) (Tryz.func9) J J (lb J) ?_;refine S3 ?_;refine aX (fun b1=> ?_);refine N1 ?_;refine aX (fun b2=> ?_);refine N1 ?_;refine aL (fun b3=> ?_);refine N5 ?_;refine a9 (jM kw J J (fun w1 hs=>UR _ _ A n c rs w1 (qi (k:=0) J J w1 hs) (JT (hs.cel (k:=0) J)) (h.over hs.fin) ht)) ?_;refine S2 ?_;refine cV 8 (fun g1=> ?_) (fun g1=> ?_)
 ·refine S7 ?_;refine a9 (JR J J (J9)) ?_;refine S6 ?_;refine qh J (J8 (k:=2) J jv J J) (.tmp J) ?_
  intro w' hs
  exact⟨none,0,by simp [jnR,jnC,g1],by simp only [jnR,g1];exact OwnG.nil none,hs.fin⟩
 ·refine h9 ?_;refine o9 (jM kw J J (fun w1 hs=>UR _ _ A2 n2 c2_ ss w1 (qi (k:=1) J J w1 hs) (JT (hs.cel (k:=1) J)) (h2.over hs.fin) ht2)) ?_;refine S4 ?_;refine cZ (fun c1=> ?_) (fun c1=> ?_)
  ·refine S2 ?_;refine a9 (JR J J (J9)) ?_;refine S6 ?_;refine qh J (J8 (k:=2) J jv J J) (.tmp J) ?_
   intro w' hs
   exact⟨none,0,by simp [jnR,jnC,c1],by simp only [jnR,c1,jkW];exact OwnG.nil none,hs.fin⟩
  ·have hr:Jp rs=true:=by simpa using g1
   have hr2:Jp ss=true:=by simpa using c1
   have hn40:=vx hr
   have hn40':=vx hr2
   have eR:jnR rs ss=Zf (rs++ss) :=by rw [jnR,if_pos (by rw [hr,hr2];rfl)]
   have eC:jnC rs ss=Ze (rs++ss) :=by rw [jnC,if_pos (by rw [hr,hr2];rfl)]
   refine S5 ?_;refine JU Mp (X:= (Option Addr×Nat)×Nat×Nat) (v:=fun x=>qr x.1.1 _ x.1.2) (r:=fun x=>kI _ _ x.2.1 x.2.2 x.1.1) (H:=fun _=>True) J J J (lb J) (fun w1 hs=>Q6 (SZ _ _ _ _ A A2 n c n2 c2_ rs ss w1 (qi (k:=0) J J w1 hs) (JT (hs.cel (k:=0) J)) (qi (k:=1) J J w1 hs) (JT (hs.cel (k:=1) J)) (h.over hs.fin) (h2.over hs.fin) hr hr2)) ?_
   rintro⟨⟨gA,gc⟩,glo,ghi⟩ -
   refine n9 ?_;refine a9 (jM Zt J J (fun w1 hs=>Pf _ _ _ (rs++ss) w1 (Ql (k:=3) J w1 hs) (Pb hr hr2))) ?_;refine S7 ?_;refine qh J (J8 (k:=2) J jv J J) (.tmp J) ?_
   intro w' hs
   have hg:=hs.all 3 _ rfl
   have ho:OwnG w.heap.size w'.heap.size w' gA (n+n2) (rs++ss) :=yC hg.1 (fun b hb=> (hg.2.1 b hb).elim id (fun h=>by cases h))
   refine⟨if Jp (rs++ss) =true then gA else none,if Jp (rs++ss) =true then gc else 0,?_,?_,hs.fin⟩
   rw [eR,eC]
   cases hb:Jp (rs++ss)
   simp [Zf,hb]
   simp [Zf,hb,hl,hl2]
   rw [eR]
   cases hb:Jp (rs++ss)
   simpa [Zf,hb] using OwnG.nil none
   simpa [Zf,hb,hl,hl2] using ho
end Go.Proofs.YtbahojdbmmjkcaaGreat
