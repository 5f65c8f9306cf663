import Derived.Test.YtbahojdbmmjkcaaGreatPCmbW
import Derived.Test.YtbahojdbmmjkcaaGreatPOrder
import Derived.Test.YtbahojdbmmjkcaaGreatPTo
set_option linter.unusedVariables false
set_option linter.unusedSimpArgs false
namespace Go.Proofs.YtbahojdbmmjkcaaGreat
open Go Go.RowKit
set_option maxRecDepth 100000
set_option maxHeartbeats 4000000
theorem SZ (A:Option Addr) (n c:Nat) (rs:List jK) (w:World) (h:Rings w A n rs) (hm: (n:Int)≤9223372036854775807) :
  Calls Tryz.prog 47 #[qK A n c] w fun e w'=>e= .returned (.tuple #[qK (if JW rs=true then A else none) (if JW rs=true then n else 0) (if JW rs=true then c else 0), .int .i64 (LT rs)])∧Over w w':=by
 refine jT (m:=8) (Tryz.func47) J J (lb J) ?_;refine S3 ?_;refine aX (fun b1=> ?_);refine N1 ?_;refine aL (fun b2=> ?_);refine N5 ?_;refine a9 (jJ WQ J J (fun w1 hs=>XT _ _ A n c rs w1 (ql (k:=0) J J w1 hs) (JZ (hs.cel (k:=0) J)) (h.over hs.fin) hm)) ?_;refine S2 ?_;refine cZ (fun c1=> ?_) (fun c1=> ?_)
 ·refine S2 ?_;refine a9 (J0 J J (qq)) ?_;refine S6 ?_;refine qo J (qh (k:=1) J jI J J) (.tmp J) ?_
  intro w' hs
  exact⟨by simp [LT,c1],hs.fin⟩
 ·refine S10 ?_;refine qo J (qh (k:=1) J jI J J) (.tmp J) ?_
  intro w' hs
  exact⟨by simp [LT,c1],hs.fin⟩
theorem L9 (p1 q1 p2 q2:Nat) (A:Option Addr) (n c:Nat) (rs:List jK) (A2:Option Addr) (n2 c2_:Nat) (ss:List jK) (how:Int) (w:World) (hc1:w.cell? ⟨p1,q1,none⟩ =some (.slice A n c)) (hb1:p1<w.heap.size) (hc2:w.cell? ⟨p2,q2,none⟩ =some (.slice A2 n2 c2_)) (hb2:p2<w.heap.size) (h:Rings w A n rs) (h2:Rings w A2 n2 ss) (hr:JW rs=true) (hr2:JW ss=true) :
  Calls Tryz.prog 125 #[.pointer (some ⟨p1,q1,none⟩), .pointer (some ⟨p2,q2,none⟩), .int .i64 how] w fun e w'=>∃A' c',e= .returned (.tuple #[qK A' (Sq rs ss how).length c', .int .i64 (coC rs ss how)])∧OwnG w.heap.size w'.heap.size w' A' (Sq rs ss how).length (Sq rs ss how)∧Over w w':=by
 have hl:=h.1
 have hl2:=h2.1
 have ht1:= (smallR.of hr).total
 have ht2:= (smallR.of hr2).total
 have hE1:=Gj hr
 have hE2:=Gj hr2
 refine jT (m:=67) (Tryz.func125) J J (lb J) ?_;refine S3 ?_;refine aL (fun b1=> ?_);refine N6 ?_;refine JR v6 (v:=fun x=> .slice x.1 (Jx rs).length x.2) (r:=fun x=>JQ 0 147 4 (Jx rs).length ((Jx rs).flatMap jU) x) (H:=fun _=>True) J J J (lb J) (fun w1 hs=>yH p1 q1 A n c rs w1 J (qP hc1 hb1 w1 hs) (jgA hb1 hs.fin.size) (h.over hs.fin) (jhA ht1 Dc)) ?_
 rintro⟨eA,ec⟩ -
 refine N2 ?_;refine JR v6 (v:=fun x=> .slice x.1 (Jx ss).length x.2) (r:=fun x=>JQ 0 147 4 (Jx ss).length ((Jx ss).flatMap jU) x) (H:=fun _=>True) J J J (lb J) (fun w1 hs=>yH p2 q2 A2 n2 c2_ ss w1 J (qP hc2 hb2 w1 hs) (jgA hb2 hs.fin.size) (h2.over hs.fin) (jhA ht2 Dc)) ?_
 rintro⟨fA,fc⟩ -
 refine N1 ?_;refine JV (k:=1) J j5 QA Dc J Dc J J J (fun w' hs=>jdZ hs (k:=2) J) (Mc _) (by unfold maxLen;omega) Om (jgw _) (fun r1=> ?_);refine N2 ?_
 rw [←jgG,←jgv]
 rw [show Jx rs++Jx ss=F6 rs ss from rfl]
 refine S7 ?_;refine cZ (fun c1=> ?_) (fun c1=> ?_)
 ·refine S2 ?_;refine a9 (J0 J J (qq)) ?_;refine S6 ?_;refine qo J (qh (k:=0) J jI J J) (.tmp J) ?_
  intro w' hs
  have hno:=Nn (rs:=rs) (ss:=ss) (show¬(F6 rs ss).length≤400 by omega)
  obtain ⟨e3,e4⟩ :=HY (how:=how) hno
  exact⟨none,0,by rw [e3,e4];rfl,by rw [e3];exact OwnG.nil none,hs.fin⟩
 ·have h4: (F6 rs ss).length≤400:=Om
  have hC:CmOk rs ss:=⟨hr,hr2,h4⟩
  have hk:=hC.hot1
  have hk2:=hC.hot2
  refine S6 ?_;refine JR Mq (v:=fun x:Option Addr×Nat=> .slice x.1 (YM rs ss).length x.2) (r:=fun x=>JQ 0 28 2 (YM rs ss).length ((YM rs ss).flatMap Ju) x) (H:=fun _=>True) J J J (lb J) (fun w1 hs=>qJ (S0 r1.1 _ r1.2 (F6 rs ss) w1 (QO (k:=1) (x:=r1) (ls:=F6 rs ss) J J w1 hs) hC.legs h4)) ?_
  rintro⟨pA,pc⟩ -
  refine N6 ?_;refine JR Yi (X:= (Option Addr×Nat)×Nat×Nat) (v:=fun x=>qK x.1.1 (qb rs).length x.1.2) (r:=fun x=>Q6 (qb rs).length (qb rs) x.2.1 x.2.2 x.1.1) (H:=fun _=>True) J J J (lb J) (fun w1 hs=>K1 (GL p1 q1 A n c rs w1 (qP hc1 hb1 w1 hs) (jgA hb1 hs.fin.size) (h.over hs.fin) hr)) ?_
  rintro⟨⟨gA,gc⟩,glo,ghi⟩ -
  refine N1 ?_;refine aL (fun b2=> ?_);refine N7 ?_;refine JR Yi (X:= (Option Addr×Nat)×Nat×Nat) (v:=fun x=>qK x.1.1 (qb ss).length x.1.2) (r:=fun x=>Q6 (qb ss).length (qb ss) x.2.1 x.2.2 x.1.1) (H:=fun _=>True) J J J (lb J) (fun w1 hs=>K1 (GL p2 q2 A2 n2 c2_ ss w1 (qP hc2 hb2 w1 hs) (jgA hb2 hs.fin.size) (h2.over hs.fin) hr2)) ?_
  rintro⟨⟨kA,kc⟩,klo,khi⟩ -
  refine N1 ?_;refine aL (fun b3=> ?_);refine N7 ?_;refine JR Un (X:= (Option Addr×Nat)×Nat×Nat) (v:=fun x=> .tuple #[qK x.1.1 (YL rs ss).length x.1.2, .int .i64 (PI (YM rs ss) (qb rs)), .bool (W6 rs ss)]) (r:=fun x=>Q6 (YL rs ss).length (YL rs ss) x.2.1 x.2.2 x.1.1) (H:=fun _=>True) J J J (lb J) (fun w1 hs=>K1 (V:=fun A' c'=> .tuple #[qK A' (YL rs ss).length c', .int .i64 (PI (YM rs ss) (qb rs)), .bool (W6 rs ss)]) (Zf _ _ gA _ gc (qb rs) pA (YM rs ss).length pc (YM rs ss) w1 (ql (k:=5) J J w1 hs) (JZ (hs.cel (k:=5) J)) (WX (hs.all 4 _ J).1).rings hk.reg (WI (hs.all 3 _ J).1 J) hk.len hk.ok hk.nd hk.bare)) ?_
  rintro⟨⟨hA,hc⟩,hlo,hhi⟩ -
  refine N5 ?_;refine aL (fun b4=> ?_);refine N9 ?_;refine JR Un (X:= (Option Addr×Nat)×Nat×Nat) (v:=fun x=> .tuple #[qK x.1.1 (yz rs ss).length x.1.2, .int .i64 (PI (YM rs ss) (qb ss)), .bool (UI rs ss)]) (r:=fun x=>Q6 (yz rs ss).length (yz rs ss) x.2.1 x.2.2 x.1.1) (H:=fun _=>True) J J J (lb J) (fun w1 hs=>K1 (V:=fun A' c'=> .tuple #[qK A' (yz rs ss).length c', .int .i64 (PI (YM rs ss) (qb ss)), .bool (UI rs ss)]) (Zf _ _ kA _ kc (qb ss) pA (YM rs ss).length pc (YM rs ss) w1 (ql (k:=7) J J w1 hs) (JZ (hs.cel (k:=7) J)) (WX (hs.all 6 _ J).1).rings hk2.reg (WI (hs.all 3 _ J).1 J) hk2.len hk2.ok hk2.nd hk2.bare)) ?_
  rintro⟨⟨mA,mc⟩,mlo,mhi⟩ -
  refine N5 ?_;refine aL (fun b5=> ?_);refine N1 ?_;refine j9 11 jD.szx ?_;refine N4 ?_;refine qn [(51, .bool (!(W6 rs ss&&UI rs ss)))] (kK [2,6,7,12,15]) (fun L h_9=> ?_) ?_
  ·refine S4 ?_;refine cV 48 (fun g1=> ?_) (fun g1=> ?_)
   ·refine S4 ?_
    exact Jr h_9 ⟨vb (by rw [g1];rfl),sz⟩ (u9 J)
   ·refine S6 ?_
    exact Jr h_9 ⟨vb (by rw [g1,jg2]),sz⟩ (u9 J)
  ·refine v9 ?_;refine cZ (fun c2=> ?_) (fun c2=> ?_)
   ·refine S2 ?_;refine a9 (J0 J J (qq)) ?_;refine S6 ?_;refine qo J (qh (k:=0) J jI J J) (.tmp J) ?_
    intro w' hs
    have hO: (W6 rs ss&&UI rs ss) =false:= (by simpa using c2)
    obtain ⟨e3,e4⟩ :=HY (how:=how) (jag hO)
    exact⟨none,0,by rw [e3,e4];rfl,by rw [e3];exact OwnG.nil none,hs.fin⟩
   ·have hO: (W6 rs ss&&UI rs ss) =true:= (by simpa using c2)
    have hO1:W6 rs ss=true:= (by rw [jgy] at hO;exact hO.1)
    have hO2:UI rs ss=true:= (by rw [jgy] at hO;exact hO.2)
    have hg1:= (G3 hk hO1).1
    have hg2:= (G3 hk2 hO2).1
    have hs1:= (smallR.of hg1).total
    have hs2:= (smallR.of hg2).total
    have hTw:=hC.two hO1 hO2
    have hPr:=hC.pair hO1 hO2
    have hoT:=hC.okT hO1 hO2 how
    obtain ⟨e3,e4⟩ :=EY (how:=how) (jaf h4 hO)
    rw [e3,e4]
    obtain ⟨E1,hE1'⟩ :∃E,E=Jx (YL rs ss) :=⟨_,rfl⟩
    obtain ⟨E2,hE2'⟩ :∃E,E=Jx (yz rs ss) :=⟨_,rfl⟩
    have hBr:Kh rs ss how=vj E1 E2 how:= (by rw [hE1',hE2'];rfl)
    have hf1:Fine (Jx (YL rs ss)) :=xm hg1
    have hf2:Fine (Jx (yz rs ss)) :=xm hg2
    rw [←hE1',←hE2'] at hTw hPr
    rw [←hE1'] at hf1
    rw [←hE2'] at hf2
    have hsm:=EJ (how:=how) hTw hf1 hf2 hPr
    obtain ⟨netFst,hN1⟩ :∃N,N=q8 false E1 [] :=⟨_,rfl⟩
    obtain ⟨NL,hNL⟩ :∃N,N=q8 true E2 netFst:=⟨_,rfl⟩
    have hNe:NL=vR E1 E2:= (by rw [hNL,hN1];rfl)
    have hl1:=hTw.lnE
    have hl2':=hTw.lnF
    have hNl:NL.length≤800:= (by have:=jd7 E1 E2;rw [←hNe] at this;omega)
    have hNa:∀t,aS t NL≤800:= (fun t=>by have:=jgb E1 E2 t;rw [←hNe] at this;omega)
    rw [←hNe,←hBr] at hsm
    have hBo:BoOk (Kh rs ss how) := (by rw [hBr];exact Zu hTw)
    have hN1l:netFst.length≤400:= (by have:=Wq (s:=false) E1 [];rw [←hN1] at this;simp only [jgY] at this;omega)
    have hN1a:∀t,aS t netFst≤4096:= (fun t=>by have:=Yy (s:=false) (t:=t) E1 [];rw [←hN1,Et] at this;split at this<;>omega)
    have hNo:∀y∈NL,qr y.e:= (fun y hy=> (xx hTw.ok hTw.ne (p:=y.e) (by rw [←Oa,←hNe];exact jgO.2 ⟨_,hy,rfl⟩)).1.ok)
    refine S3 ?_;refine kh (T:=262) (s:=8) ?_;refine t9 ?_;refine S2 ?_;refine JR v6 (v:=fun x=> .slice x.1 E1.length x.2) (r:=fun x=>JQ 0 147 4 E1.length (E1.flatMap jU) x) (H:=fun _=>True) J J J (lb J) (fun w1 hs=>yH _ _ hA _ hc (YL rs ss) w1 hE1' (ql (k:=9) J J w1 hs) (JZ (hs.cel (k:=9) J)) (WX (hs.all 8 _ J).1).rings (jhA hs1 Dc)) ?_
    rintro⟨xA,xc⟩ -
    refine N1 ?_;refine W2 (k:=12) (X:=Option Addr×Nat) (v:=fun y=> .slice y.1 netFst.length y.2) (r':=fun y=>Ib netFst y) Y4 J J J Dc J (fun w1 hs=>hN1▸L8 xA _ xc E1 false [] (none,0) w1 (yb (hs.all 13 _ J).1 J) hTw.ok1 Om (by simp) (fun t=>by rw [Et];omega) (Tt _ _ _ _) (fun _ p _=>by simp [FC])) ?_
    rintro⟨lA,lc⟩
    refine N1 ?_;refine JR v6 (v:=fun x=> .slice x.1 E2.length x.2) (r:=fun x=>JQ 0 147 4 E2.length (E2.flatMap jU) x) (H:=fun _=>True) J J J (lb J) (fun w1 hs=>yH _ _ mA _ mc (yz rs ss) w1 hE2' (ql (k:=11) J J w1 hs) (JZ (hs.cel (k:=11) J)) (WX (hs.all 10 _ J).1).rings (jhA hs2 Dc)) ?_
    rintro⟨yA,y_c⟩ -
    refine N1 ?_;refine W2 (k:=12) (X:=Option Addr×Nat) (v:=fun y=> .slice y.1 NL.length y.2) (r':=fun y=>Ib NL y) Y4 J J J Dc J (fun w1 hs=>hNL▸L8 yA _ y_c E2 true netFst (lA,lc) w1 (yb (hs.all 14 _ J).1 J) hTw.ok2 Om Om hN1a (hs.all 12 _ J).1 (fun _ p hp hb=>hs.apart 12 14 _ _ Dc J J p.block (UL.2 hb) (by show Value.ownBlock (.slice yA E2.length y_c) =some p.block;rw [hp];rfl))) ?_
    rintro⟨zA,zc⟩
    refine N6 ?_;refine Va (k:=12) (r':=JQ 0 262 8 NL.length ((ui NL).flatMap qi) (zA,zc)) X8 J J J Dc J (fun w1 hs=>D2 NL (zA,zc) w1 (hs.all 12 _ J).1 hNo Om (fun t=>by have:=hNa t;omega)) (fun _ h=>h) J ?_;refine N6 ?_;refine JR xZ (v:=fun x:Option Addr×Nat=> .slice x.1 (Kh rs ss how).length x.2) (r:=fun x=>JQ 0 147 4 (Kh rs ss how).length ((Kh rs ss how).flatMap jU) x) (H:=fun _=>True) J J J (lb J) (fun w1 hs=>qJ (by have:=OK NL (zA,zc) how w1 (hs.all 12 _ J).1 Om (fun t=>by have:=hNa t;omega);rw [hsm] at this;exact this)) ?_
    rintro⟨bA,bc⟩ -
    refine N1 ?_;refine JR X9 (X:= (Option Addr×Nat)×Nat×Nat) (v:=fun x=> .slice x.1.1 (vx rs ss how).length x.1.2) (r:=fun x=>Q6 (vx rs ss how).length (vx rs ss how) x.2.1 x.2.2 x.1.1) (H:=fun _=>True) J J J (lb J) (fun w1 hs=>K1 (V:=fun A' c'=> .slice A' (vx rs ss how).length c') (D3 bA _ bc (Kh rs ss how) w1 (QO (k:=15) (x:= (bA,bc)) (ls:=Kh rs ss how) J J w1 hs) hBo)) ?_
    rintro⟨⟨tA,tc⟩,tlo,thi⟩ -
    refine N1 ?_;refine JR X7 (X:= (Option Addr×Nat)×Nat×Nat) (v:=fun x=>qK x.1.1 (vx rs ss how).length x.1.2) (r:=fun x=>Q6 (vx rs ss how).length (wX (vx rs ss how)) x.2.1 x.2.2 x.1.1) (H:=fun _=>True) J J J (lb J) (fun w1 hs=>K1 (V:=fun A' c'=>qK A' (vx rs ss how).length c') (D1 tA _ tc (vx rs ss how) w1 (WX (hs.all 16 _ J).1).rings hoT)) ?_
    rintro⟨⟨oA,oc⟩,olo,ohi⟩ -
    refine n9 ?_;refine a9 (jJ Mp J J (fun w1 hs=>SZ oA _ oc (wX (vx rs ss how)) w1 (WX (hs.all 17 _ J).1).rings (by have:=hoT.1;omega))) ?_;refine S7 ?_;refine qo J (qh (k:=0) J jI J J) (.tmp J) ?_
    intro w' hs
    have hg:=hs.all 17 _ rfl
    have ho:OwnG w.heap.size w'.heap.size w' oA (vx rs ss how).length (wX (vx rs ss how)) :=ZE hg.1 (fun b hb=> (hg.2.1 b hb).elim id (fun h=>by cases h))
    have hol:=MC (vx rs ss how)
    refine⟨if JW (wX (vx rs ss how)) =true then oA else none,if JW (wX (vx rs ss how)) =true then oc else 0,?_,?_,hs.fin⟩
    cases hb:JW (wX (vx rs ss how))
    simp [Hu,LT,hb]
    simp [Hu,LT,hb,hol]
    cases hb:JW (wX (vx rs ss how))
    simpa [Hu,hb] using OwnG.nil none
    simpa [Hu,hb,hol] using ho
end Go.Proofs.YtbahojdbmmjkcaaGreat
namespace Go.Proofs.YtbahojdbmmjkcaaGreat
open Go Go.RowKit
theorem RingsC.rings {w:World} {A:Option Addr} {n:Nat} {rs:List jK} (h:RingsC w A n rs) (hs:∀r∈rs,r.length≤1048577) :Rings w A n rs:=⟨h.1,fun hn=>by
 have hl:=h.1
 obtain ⟨b,o,hA,hb,hc⟩ :=h.2 hn
 refine⟨b,o,hA,hb,fun k hk=> ?_⟩
 obtain ⟨Ak,ck,h1,h2,h3⟩ :=hc k hk
 have:=hs rs[k] (jgH Om)
 rw [Vm Om] at this
 exact⟨Ak,ck,h1,h2,by omega⟩⟩
end Go.Proofs.YtbahojdbmmjkcaaGreat
namespace Go.Proofs.YtbahojdbmmjkcaaGreat
open Go Go.RowKit
variable {rs:List jK}
set_option maxRecDepth 100000
set_option maxHeartbeats 4000000
theorem Il (A:Option Addr) (n c:Nat) (rs:List jK) (A2:Option Addr) (n2 c2_:Nat) (ss:List jK) (w:World) (h:Rings w A n rs) (hm: (n:Int)≤9223372036854775807) (h2:Rings w A2 n2 ss) (hm2: (n2:Int)≤9223372036854775807) :
  Calls Tryz.prog 11 #[qK A n c,qK A2 n2 c2_] w fun e w'=>∃A' c',e= .returned (.tuple #[qK A' (UV rs ss 1).length c', .int .i64 (Bd rs ss 1)])∧OwnG w.heap.size w'.heap.size w' A' (UV rs ss 1).length (UV rs ss 1)∧Over w w':=by
 refine jT (m:=11) (Tryz.func11) J J (lb J) ?_;refine S3 ?_;refine aX (fun b1=> ?_);refine N1 ?_;refine aX (fun b2=> ?_);refine N1 ?_;refine aL (fun b3=> ?_);refine N7 ?_;refine JR yN (X:= (Option Addr×Nat)×Nat×Nat) (v:=fun x=> .tuple #[qK x.1.1 (UV rs ss 1).length x.1.2, .int .i64 (Bd rs ss 1)]) (r:=fun x=>Q6 (UV rs ss 1).length (UV rs ss 1) x.2.1 x.2.2 x.1.1) (H:=fun _=>True) J J J (lb J) (fun w1 hs=>K1 (V:=fun A' c'=> .tuple #[qK A' (UV rs ss 1).length c', .int .i64 (Bd rs ss 1)]) (Zq A n c rs A2 n2 c2_ ss 1 w1 (h.over hs.fin) hm (h2.over hs.fin) hm2)) ?_
 rintro⟨⟨oA,oc⟩,olo,ohi⟩ -
 refine N7 ?_;refine qo J (qh (k:=2) J jI J J) (.tmp J) ?_
 intro w' hs
 have hg:=hs.all 3 _ rfl
 have ho:=ZE hg.1 (fun b hb=> (hg.2.1 b hb).elim id (fun h=>by cases h))
 exact⟨oA,oc,rfl,ho,hs.fin⟩
theorem jbP (w:World) :Rings w none 0 [] :=⟨rfl,fun h=>absurd h Dc⟩
theorem jeJ (h:JW rs=true) :UV rs [] 1=Sq rs [] 1∧Bd rs [] 1=coC rs [] 1:=jee (by rw [XK,h];rfl) rfl
theorem NO {n:Nat} (hl:rs.length=n) (ht: (total rs:Int)≤1048576) : (n:Int)≤9223372036854775807:=by
 unfold total at ht
 omega
theorem Z9 (A:Option Addr) (n c:Nat) (rs:List jK) (w:World) (h:Rings w A n rs) (ht: (total rs:Int)≤1048576) :
  Calls Tryz.prog 147 #[qK A n c] w fun e w'=>∃A' c',e= .returned (.tuple #[qK A' (UV rs [] 1).length c', .int .i64 (Bd rs [] 1)])∧OwnG w.heap.size w'.heap.size w' A' (UV rs [] 1).length (UV rs [] 1)∧Over w w':=by
 refine jT (m:=9) (Tryz.func147) J J (lb J) ?_;refine S3 ?_;refine aX (fun b1=> ?_);refine N1 ?_;refine aL (fun b2=> ?_);refine N5 ?_;refine a9 (J0 J J (qq)) ?_;refine S1 ?_;refine JR Hz (X:= (Option Addr×Nat)×Nat×Nat) (v:=fun x=> .tuple #[qK x.1.1 (UV rs [] 1).length x.1.2, .int .i64 (Bd rs [] 1)]) (r:=fun x=>Q6 (UV rs [] 1).length (UV rs [] 1) x.2.1 x.2.2 x.1.1) (H:=fun _=>True) J J J (lb J) (fun w1 hs=>K1 (V:=fun A' c'=> .tuple #[qK A' (UV rs [] 1).length c', .int .i64 (Bd rs [] 1)]) (Il A n c rs none 0 0 [] w1 (h.over hs.fin) (NO h.1 ht) (jbP w1) Dc)) ?_
 rintro⟨⟨oA,oc⟩,olo,ohi⟩ -
 refine N7 ?_;refine qo J (qh (k:=1) J jI J J) (.tmp J) ?_
 intro w' hs
 have hg:=hs.all 2 _ rfl
 have ho:=ZE hg.1 (fun b hb=> (hg.2.1 b hb).elim id (fun h=>by cases h))
 exact⟨oA,oc,rfl,ho,hs.fin⟩
theorem Yv (A:Option Addr) (n c:Nat) (rs:List jK) (w:World) (h:Rings w A n rs) (ht: (total rs:Int)≤1048576) :
  Calls Tryz.prog 92 #[qK A n c] w fun e w'=>∃A' c',e= .returned (.tuple #[qK A' (UV rs [] 1).length c', .int .i64 (Bd rs [] 1)])∧OwnG w.heap.size w'.heap.size w' A' (UV rs [] 1).length (UV rs [] 1)∧Over w w':=by
 refine jT (m:=12) (Tryz.func92) J J (lb J) ?_;refine S3 ?_;refine aX (fun b1=> ?_);refine N1 ?_;refine aL (fun b2=> ?_);refine N5 ?_;refine a9 (jJ WQ J J (fun w1 hs=>XT _ _ A n c rs w1 (ql (k:=0) J J w1 hs) (JZ (hs.cel (k:=0) J)) (h.over hs.fin) (NO h.1 ht))) ?_;refine S2 ?_;refine cZ (fun c1=> ?_) (fun c1=> ?_)
 ·refine S2 ?_;refine a9 (J0 J J (qq)) ?_;refine S6 ?_;refine qo J (qh (k:=1) J jI J J) (.tmp J) ?_
  intro w' hs
  obtain ⟨e1,e2⟩ :=ER (ss:= []) (how:=1) (rs:=rs) (by rw [XK];simp [c1])
  exact⟨none,0,by rw [e1,e2];rfl,by rw [e1];exact OwnG.nil none,hs.fin⟩
 ·have hr:JW rs=true:= (by simpa using c1)
  obtain ⟨e1,e2⟩ :=jeJ hr
  rw [e1,e2]
  refine S4 ?_;refine a9 (J0 J J (qq)) ?_;refine S1 ?_;refine aX (fun b3=> ?_);refine N1 ?_;refine JR ZP (X:= (Option Addr×Nat)×Nat×Nat) (v:=fun x=> .tuple #[qK x.1.1 (Sq rs [] 1).length x.1.2, .int .i64 (coC rs [] 1)]) (r:=fun x=>Q6 (Sq rs [] 1).length (Sq rs [] 1) x.2.1 x.2.2 x.1.1) (H:=fun _=>True) J J J (lb J) (fun w1 hs=>K1 (V:=fun A' c'=> .tuple #[qK A' (Sq rs [] 1).length c', .int .i64 (coC rs [] 1)]) (L9 _ _ _ _ A n c rs none 0 0 [] 1 w1 (ql (k:=0) J J w1 hs) (JZ (hs.cel (k:=0) J)) (ql (k:=2) J J w1 hs) (JZ (hs.cel (k:=2) J)) (h.over hs.fin) (jbP w1) hr J)) ?_
  rintro⟨⟨oA,oc⟩,olo,ohi⟩ -
  refine N7 ?_;refine qo J (qh (k:=1) J jI J J) (.tmp J) ?_
  intro w' hs
  have hg:=hs.all 3 _ rfl
  have ho:=ZE hg.1 (fun b hb=> (hg.2.1 b hb).elim id (fun h=>by cases h))
  exact⟨oA,oc,rfl,ho,hs.fin⟩
def ES (rs:List jK) :Bool:=Bd rs [] 1==0&&decide (UV rs [] 1=rs)
theorem jeK (rs:List jK) (how:Int) {ss:List jK} : ((UV rs ss how).length:Int)≤1048576:=by
 have:= (Be rs ss how).total
 unfold total at this
 omega
theorem Ik (A:Option Addr) (n c:Nat) (rs:List jK) (w:World) (h:Rings w A n rs) (ht: (total rs:Int)≤1048576) :
  Calls Tryz.prog 93 #[qK A n c] w fun e w'=>e= .returned (.bool (ES rs))∧Over w w':=by
 have hl:=h.1
 have hm: (n:Int)≤9223372036854775807:=by unfold total at ht;omega
 refine jT (m:=17) (Tryz.func93) J J (lb J) ?_;refine S3 ?_;refine aX (fun b1=> ?_);refine N6 ?_;refine JR Yt (X:= (Option Addr×Nat)×Nat×Nat) (v:=fun x=> .tuple #[qK x.1.1 (UV rs [] 1).length x.1.2, .int .i64 (Bd rs [] 1)]) (r:=fun x=>Q6 (UV rs [] 1).length (UV rs [] 1) x.2.1 x.2.2 x.1.1) (H:=fun _=>True) J J J (lb J) (fun w1 hs=>K1 (V:=fun A' c'=> .tuple #[qK A' (UV rs [] 1).length c', .int .i64 (Bd rs [] 1)]) (Z9 A n c rs w1 (h.over hs.fin) ht)) ?_
 rintro⟨⟨oA,oc⟩,olo,ohi⟩ -
 refine N4 ?_;refine aL (fun b2=> ?_);refine N9 ?_;refine cV 12 (fun g1=> ?_) (fun g1=> ?_)
 ·refine S5 ?_;refine o9 (jJ uL J J (fun w1 hs=>Yx _ A _ n _ c (UV rs [] 1) rs w1 (WX (hs.all 1 _ J).1).rings (h.over hs.fin) (jhA (jeK rs 1) Dc))) ?_;refine S4 ?_;refine jL J (.tmp J) ?_
  intro w' hs
  exact⟨Qs (by simp [ES,g1]),hs.fin⟩
 ·refine S7 ?_;refine jL J (.tmp J) ?_
  intro w' hs
  exact⟨Qs (by simp [ES,g1]),hs.fin⟩
theorem HT (A:Option Addr) (n c:Nat) (rs:List jK) (w:World) (h:Rings w A n rs) (ht: (total rs:Int)≤1048576) :
  Calls Tryz.prog 130 #[qK A n c] w fun e w'=>e= .returned (.bool (ES rs))∧Over w w':=by
 have hl:=h.1
 have hm: (n:Int)≤9223372036854775807:=by unfold total at ht;omega
 refine jT (m:=17) (Tryz.func130) J J (lb J) ?_;refine S3 ?_;refine aX (fun b1=> ?_);refine N6 ?_;refine JR Yu (X:= (Option Addr×Nat)×Nat×Nat) (v:=fun x=> .tuple #[qK x.1.1 (UV rs [] 1).length x.1.2, .int .i64 (Bd rs [] 1)]) (r:=fun x=>Q6 (UV rs [] 1).length (UV rs [] 1) x.2.1 x.2.2 x.1.1) (H:=fun _=>True) J J J (lb J) (fun w1 hs=>K1 (V:=fun A' c'=> .tuple #[qK A' (UV rs [] 1).length c', .int .i64 (Bd rs [] 1)]) (Yv A n c rs w1 (h.over hs.fin) ht)) ?_
 rintro⟨⟨oA,oc⟩,olo,ohi⟩ -
 refine N4 ?_;refine aL (fun b2=> ?_);refine N9 ?_;refine cV 12 (fun g1=> ?_) (fun g1=> ?_)
 ·refine S5 ?_;refine o9 (jJ uT J J (fun w1 hs=>uY _ A _ n _ c (UV rs [] 1) rs w1 (WX (hs.all 1 _ J).1).rings (h.over hs.fin) (Be rs [] 1).total ht)) ?_;refine S4 ?_;refine jL J (.tmp J) ?_
  intro w' hs
  exact⟨Qs (by simp [ES,g1]),hs.fin⟩
 ·refine S7 ?_;refine jL J (.tmp J) ?_
  intro w' hs
  exact⟨Qs (by simp [ES,g1]),hs.fin⟩
end Go.Proofs.YtbahojdbmmjkcaaGreat
