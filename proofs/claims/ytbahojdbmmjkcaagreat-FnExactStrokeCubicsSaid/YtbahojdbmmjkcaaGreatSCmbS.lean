import Derived.Test.YtbahojdbmmjkcaaGreatSCmbW
import Derived.Test.YtbahojdbmmjkcaaGreatSOrder
import Derived.Test.YtbahojdbmmjkcaaGreatSTo
import Derived.Test.YtbahojdbmmjkcaaGreatSStroke
set_option linter.unusedVariables false
set_option linter.unusedSimpArgs false
namespace Go.Proofs.YtbahojdbmmjkcaaGreat
open Go Go.RowKit
set_option maxRecDepth 100000
set_option maxHeartbeats 4000000
theorem NW (A:Option Addr) (n c:Nat) (rs:List Jp) (w:World) (h:Rings w A n rs) (hm: (n:Int)≤9223372036854775807) :
  Calls Tryz.prog 47 #[qG A n c] w fun e w'=>e= .returned (.tuple #[qG (if J0 rs=true then A else none) (if J0 rs=true then n else 0) (if J0 rs=true then c else 0), .int .i64 (yf rs)])∧Over w w':=by
 refine jK (m:=8) (Tryz.func47) J J (lb J) ?_;refine S3 ?_;refine aX (fun b1=> ?_);refine N1 ?_;refine aL (fun b2=> ?_);refine N5 ?_;refine a9 (jG W9 J J (fun w1 hs=>Gy _ _ A n c rs w1 (qq (k:=0) J J w1 hs) (J4 (hs.cel (k:=0) J)) (h.over hs.fin) hm)) ?_;refine S2 ?_;refine cZ (fun c1=> ?_) (fun c1=> ?_)
 ·refine S2 ?_;refine a9 (JF J J (JJ)) ?_;refine S6 ?_;refine JX J (JZ (k:=1) J jE J J) (.tmp J) ?_
  intro w' hs
  exact⟨by simp [yf,c1],hs.fin⟩
 ·refine S10 ?_;refine JX J (JZ (k:=1) J jE J J) (.tmp J) ?_
  intro w' hs
  exact⟨by simp [yf,c1],hs.fin⟩
theorem M9 (p1 q1 p2 q2:Nat) (A:Option Addr) (n c:Nat) (rs:List Jp) (A2:Option Addr) (n2 c2_:Nat) (ss:List Jp) (how:Int) (w:World) (hc1:w.cell? ⟨p1,q1,none⟩ =some (.slice A n c)) (hb1:p1<w.heap.size) (hc2:w.cell? ⟨p2,q2,none⟩ =some (.slice A2 n2 c2_)) (hb2:p2<w.heap.size) (h:Rings w A n rs) (h2:Rings w A2 n2 ss) (hr:J0 rs=true) (hr2:J0 ss=true) :
  Calls Tryz.prog 125 #[.pointer (some ⟨p1,q1,none⟩), .pointer (some ⟨p2,q2,none⟩), .int .i64 how] w fun e w'=>∃A' c',e= .returned (.tuple #[qG A' (Nb rs ss how).length c', .int .i64 (coC rs ss how)])∧OwnG w.heap.size w'.heap.size w' A' (Nb rs ss how).length (Nb rs ss how)∧Over w w':=by
 have hl:=h.1
 have hl2:=h2.1
 have ht1:= (smallR.of hr).total
 have ht2:= (smallR.of hr2).total
 have hE1:=G5 hr
 have hE2:=G5 hr2
 refine jK (m:=67) (Tryz.func125) J J (lb J) ?_;refine S3 ?_;refine aL (fun b1=> ?_);refine N6 ?_;refine JQ Vr (v:=fun x=> .slice x.1 (Jw rs).length x.2) (r:=fun x=>JS 0 147 4 (Jw rs).length ((Jw rs).flatMap Je) x) (H:=fun _=>True) J J J (lb J) (fun w1 hs=>y6 p1 q1 A n c rs w1 J (Qb hc1 hb1 w1 hs) (jio hb1 hs.fin.size) (h.over hs.fin) (jjs ht1 Dc)) ?_
 rintro⟨eA,ec⟩ -
 refine N2 ?_;refine JQ Vr (v:=fun x=> .slice x.1 (Jw ss).length x.2) (r:=fun x=>JS 0 147 4 (Jw ss).length ((Jw ss).flatMap Je) x) (H:=fun _=>True) J J J (lb J) (fun w1 hs=>y6 p2 q2 A2 n2 c2_ ss w1 J (Qb hc2 hb2 w1 hs) (jio hb2 hs.fin.size) (h2.over hs.fin) (jjs ht2 Dc)) ?_
 rintro⟨fA,fc⟩ -
 refine N1 ?_;refine JK (k:=1) J Ju Qx Dc J Dc J J J (fun w' hs=>jfn hs (k:=2) J) (Oc _) (by unfold maxLen;omega) Om (jie _) (fun r1=> ?_);refine N2 ?_
 rw [←jii,←jid]
 rw [show Jw rs++Jw ss=Rr rs ss from rfl]
 refine S7 ?_;refine cZ (fun c1=> ?_) (fun c1=> ?_)
 ·refine S2 ?_;refine a9 (JF J J (JJ)) ?_;refine S6 ?_;refine JX J (JZ (k:=0) J jE J J) (.tmp J) ?_
  intro w' hs
  have hno:=Cg (rs:=rs) (ss:=ss) (show¬(Rr rs ss).length≤400 by omega)
  obtain ⟨e3,e4⟩ :=LU (how:=how) hno
  exact⟨none,0,by rw [e3,e4];rfl,by rw [e3];exact OwnG.nil none,hs.fin⟩
 ·have h4: (Rr rs ss).length≤400:=Om
  have hC:CmOk rs ss:=⟨hr,hr2,h4⟩
  have hk:=hC.hot1
  have hk2:=hC.hot2
  refine S6 ?_;refine JQ Ow (v:=fun x:Option Addr×Nat=> .slice x.1 (za rs ss).length x.2) (r:=fun x=>JS 0 28 2 (za rs ss).length ((za rs ss).flatMap jV) x) (H:=fun _=>True) J J J (lb J) (fun w1 hs=>qI (NX r1.1 _ r1.2 (Rr rs ss) w1 (vJ (k:=1) (x:=r1) (ls:=Rr rs ss) J J w1 hs) hC.legs h4)) ?_
  rintro⟨pA,pc⟩ -
  refine N6 ?_;refine JQ YD (X:= (Option Addr×Nat)×Nat×Nat) (v:=fun x=>qG x.1.1 (qh rs).length x.1.2) (r:=fun x=>kx (qh rs).length (qh rs) x.2.1 x.2.2 x.1.1) (H:=fun _=>True) J J J (lb J) (fun w1 hs=>K7 (HK p1 q1 A n c rs w1 (Qb hc1 hb1 w1 hs) (jio hb1 hs.fin.size) (h.over hs.fin) hr)) ?_
  rintro⟨⟨gA,gc⟩,glo,ghi⟩ -
  refine N1 ?_;refine aL (fun b2=> ?_);refine N7 ?_;refine JQ YD (X:= (Option Addr×Nat)×Nat×Nat) (v:=fun x=>qG x.1.1 (qh ss).length x.1.2) (r:=fun x=>kx (qh ss).length (qh ss) x.2.1 x.2.2 x.1.1) (H:=fun _=>True) J J J (lb J) (fun w1 hs=>K7 (HK p2 q2 A2 n2 c2_ ss w1 (Qb hc2 hb2 w1 hs) (jio hb2 hs.fin.size) (h2.over hs.fin) hr2)) ?_
  rintro⟨⟨kA,kc⟩,klo,khi⟩ -
  refine N1 ?_;refine aL (fun b3=> ?_);refine N7 ?_;refine JQ UH (X:= (Option Addr×Nat)×Nat×Nat) (v:=fun x=> .tuple #[qG x.1.1 (Y9 rs ss).length x.1.2, .int .i64 (Er (za rs ss) (qh rs)), .bool (ut rs ss)]) (r:=fun x=>kx (Y9 rs ss).length (Y9 rs ss) x.2.1 x.2.2 x.1.1) (H:=fun _=>True) J J J (lb J) (fun w1 hs=>K7 (V:=fun A' c'=> .tuple #[qG A' (Y9 rs ss).length c', .int .i64 (Er (za rs ss) (qh rs)), .bool (ut rs ss)]) (ZR _ _ gA _ gc (qh rs) pA (za rs ss).length pc (za rs ss) w1 (qq (k:=5) J J w1 hs) (J4 (hs.cel (k:=5) J)) (uO (hs.all 4 _ J).1).rings hk.reg (kE (hs.all 3 _ J).1 J) hk.len hk.ok hk.nd hk.bare)) ?_
  rintro⟨⟨hA,hc⟩,hlo,hhi⟩ -
  refine N5 ?_;refine aL (fun b4=> ?_);refine N9 ?_;refine JQ UH (X:= (Option Addr×Nat)×Nat×Nat) (v:=fun x=> .tuple #[qG x.1.1 (yX rs ss).length x.1.2, .int .i64 (Er (za rs ss) (qh ss)), .bool (UY rs ss)]) (r:=fun x=>kx (yX rs ss).length (yX rs ss) x.2.1 x.2.2 x.1.1) (H:=fun _=>True) J J J (lb J) (fun w1 hs=>K7 (V:=fun A' c'=> .tuple #[qG A' (yX rs ss).length c', .int .i64 (Er (za rs ss) (qh ss)), .bool (UY rs ss)]) (ZR _ _ kA _ kc (qh ss) pA (za rs ss).length pc (za rs ss) w1 (qq (k:=7) J J w1 hs) (J4 (hs.cel (k:=7) J)) (uO (hs.all 6 _ J).1).rings hk2.reg (kE (hs.all 3 _ J).1 J) hk2.len hk2.ok hk2.nd hk2.bare)) ?_
  rintro⟨⟨mA,mc⟩,mlo,mhi⟩ -
  refine N5 ?_;refine aL (fun b5=> ?_);refine N1 ?_;refine j9 11 ju.szx ?_;refine N4 ?_;refine qr [(51, .bool (!(ut rs ss&&UY rs ss)))] (kK [2,6,7,12,15]) (fun L h_9=> ?_) ?_
  ·refine S4 ?_;refine cV 48 (fun g1=> ?_) (fun g1=> ?_)
   ·refine S4 ?_
    exact Js h_9 ⟨vb (by rw [g1];rfl),sz⟩ (u9 J)
   ·refine S6 ?_
    exact Js h_9 ⟨vb (by rw [g1,jiJ]),sz⟩ (u9 J)
  ·refine v9 ?_;refine cZ (fun c2=> ?_) (fun c2=> ?_)
   ·refine S2 ?_;refine a9 (JF J J (JJ)) ?_;refine S6 ?_;refine JX J (JZ (k:=0) J jE J J) (.tmp J) ?_
    intro w' hs
    have hO: (ut rs ss&&UY rs ss) =false:= (by simpa using c2)
    obtain ⟨e3,e4⟩ :=LU (how:=how) (jbX hO)
    exact⟨none,0,by rw [e3,e4];rfl,by rw [e3];exact OwnG.nil none,hs.fin⟩
   ·have hO: (ut rs ss&&UY rs ss) =true:= (by simpa using c2)
    have hO1:ut rs ss=true:= (by rw [jig] at hO;exact hO.1)
    have hO2:UY rs ss=true:= (by rw [jig] at hO;exact hO.2)
    have hg1:= (Lb hk hO1).1
    have hg2:= (Lb hk2 hO2).1
    have hs1:= (smallR.of hg1).total
    have hs2:= (smallR.of hg2).total
    have hTw:=hC.two hO1 hO2
    have hPr:=hC.pair hO1 hO2
    have hoT:=hC.okT hO1 hO2 how
    obtain ⟨e3,e4⟩ :=jbL (how:=how) (jbW h4 hO)
    rw [e3,e4]
    obtain ⟨E1,hE1'⟩ :∃E,E=Jw (Y9 rs ss) :=⟨_,rfl⟩
    obtain ⟨E2,hE2'⟩ :∃E,E=Jw (yX rs ss) :=⟨_,rfl⟩
    have hBr:KA rs ss how=vD E1 E2 how:= (by rw [hE1',hE2'];rfl)
    have hf1:Fine (Jw (Y9 rs ss)) :=x5 hg1
    have hf2:Fine (Jw (yX rs ss)) :=x5 hg2
    rw [←hE1',←hE2'] at hTw hPr
    rw [←hE1'] at hf1
    rw [←hE2'] at hf2
    have hsm:=jby (how:=how) hTw hf1 hf2 hPr
    obtain ⟨netFst,hN1⟩ :∃N,N=Qj false E1 [] :=⟨_,rfl⟩
    obtain ⟨NL,hNL⟩ :∃N,N=Qj true E2 netFst:=⟨_,rfl⟩
    have hNe:NL=Vk E1 E2:= (by rw [hNL,hN1];rfl)
    have hl1:=hTw.lnE
    have hl2':=hTw.lnF
    have hNl:NL.length≤800:= (by have:=jfv E1 E2;rw [←hNe] at this;omega)
    have hNa:∀t,aS t NL≤800:= (fun t=>by have:=jhP E1 E2 t;rw [←hNe] at this;omega)
    rw [←hNe,←hBr] at hsm
    have hBo:BoOk (KA rs ss how) := (by rw [hBr];exact Z6 hTw)
    have hN1l:netFst.length≤400:= (by have:=WO (s:=false) E1 [];rw [←hN1] at this;simp only [jiw] at this;omega)
    have hN1a:∀t,aS t netFst≤4096:= (fun t=>by have:=YS (s:=false) (t:=t) E1 [];rw [←hN1,jbg] at this;split at this<;>omega)
    have hNo:∀y∈NL,qU y.e:= (fun y hy=> (Xf hTw.ok hTw.ne (p:=y.e) (by rw [←Bv,←hNe];exact jiD.2 ⟨_,hy,rfl⟩)).1.ok)
    refine S3 ?_;refine Q7 (T:=262) (s:=8) ?_;refine t9 ?_;refine S2 ?_;refine JQ Vr (v:=fun x=> .slice x.1 E1.length x.2) (r:=fun x=>JS 0 147 4 E1.length (E1.flatMap Je) x) (H:=fun _=>True) J J J (lb J) (fun w1 hs=>y6 _ _ hA _ hc (Y9 rs ss) w1 hE1' (qq (k:=9) J J w1 hs) (J4 (hs.cel (k:=9) J)) (uO (hs.all 8 _ J).1).rings (jjs hs1 Dc)) ?_
    rintro⟨xA,xc⟩ -
    refine N1 ?_;refine we (k:=12) (X:=Option Addr×Nat) (v:=fun y=> .slice y.1 netFst.length y.2) (r':=fun y=>Rx netFst y) zM J J J Dc J (fun w1 hs=>hN1▸M8 xA _ xc E1 false [] (none,0) w1 (yB (hs.all 13 _ J).1 J) hTw.ok1 Om (by simp) (fun t=>by rw [jbg];omega) (jg0 _ _ _ _) (fun _ p _=>by simp [jaK])) ?_
    rintro⟨lA,lc⟩
    refine N1 ?_;refine JQ Vr (v:=fun x=> .slice x.1 E2.length x.2) (r:=fun x=>JS 0 147 4 E2.length (E2.flatMap Je) x) (H:=fun _=>True) J J J (lb J) (fun w1 hs=>y6 _ _ mA _ mc (yX rs ss) w1 hE2' (qq (k:=11) J J w1 hs) (J4 (hs.cel (k:=11) J)) (uO (hs.all 10 _ J).1).rings (jjs hs2 Dc)) ?_
    rintro⟨yA,y_c⟩ -
    refine N1 ?_;refine we (k:=12) (X:=Option Addr×Nat) (v:=fun y=> .slice y.1 NL.length y.2) (r':=fun y=>Rx NL y) zM J J J Dc J (fun w1 hs=>hNL▸M8 yA _ y_c E2 true netFst (lA,lc) w1 (yB (hs.all 14 _ J).1 J) hTw.ok2 Om Om hN1a (hs.all 12 _ J).1 (fun _ p hp hb=>hs.apart 12 14 _ _ Dc J J p.block (G4.2 hb) (by show Value.ownBlock (.slice yA E2.length y_c) =some p.block;rw [hp];rfl))) ?_
    rintro⟨zA,zc⟩
    refine N6 ?_;refine vT (k:=12) (r':=JS 0 262 8 NL.length ((uL NL).flatMap qm) (zA,zc)) GU J J J Dc J (fun w1 hs=>Iq NL (zA,zc) w1 (hs.all 12 _ J).1 hNo Om (fun t=>by have:=hNa t;omega)) (fun _ h=>h) J ?_;refine N6 ?_;refine JQ XD (v:=fun x:Option Addr×Nat=> .slice x.1 (KA rs ss how).length x.2) (r:=fun x=>JS 0 147 4 (KA rs ss how).length ((KA rs ss how).flatMap Je) x) (H:=fun _=>True) J J J (lb J) (fun w1 hs=>qI (by have:=B9 NL (zA,zc) how w1 (hs.all 12 _ J).1 Om (fun t=>by have:=hNa t;omega);rw [hsm] at this;exact this)) ?_
    rintro⟨bA,bc⟩ -
    refine N1 ?_;refine JQ GV (X:= (Option Addr×Nat)×Nat×Nat) (v:=fun x=> .slice x.1.1 (vR rs ss how).length x.1.2) (r:=fun x=>kx (vR rs ss how).length (vR rs ss how) x.2.1 x.2.2 x.1.1) (H:=fun _=>True) J J J (lb J) (fun w1 hs=>K7 (V:=fun A' c'=> .slice A' (vR rs ss how).length c') (Ir bA _ bc (KA rs ss how) w1 (vJ (k:=15) (x:= (bA,bc)) (ls:=KA rs ss how) J J w1 hs) hBo)) ?_
    rintro⟨⟨tA,tc⟩,tlo,thi⟩ -
    refine N1 ?_;refine JQ GT (X:= (Option Addr×Nat)×Nat×Nat) (v:=fun x=>qG x.1.1 (vR rs ss how).length x.1.2) (r:=fun x=>kx (vR rs ss how).length (Wq (vR rs ss how)) x.2.1 x.2.2 x.1.1) (H:=fun _=>True) J J J (lb J) (fun w1 hs=>K7 (V:=fun A' c'=>qG A' (vR rs ss how).length c') (Ip tA _ tc (vR rs ss how) w1 (uO (hs.all 16 _ J).1).rings hoT)) ?_
    rintro⟨⟨oA,oc⟩,olo,ohi⟩ -
    refine n9 ?_;refine a9 (jG zL J J (fun w1 hs=>NW oA _ oc (Wq (vR rs ss how)) w1 (uO (hs.all 17 _ J).1).rings (by have:=hoT.1;omega))) ?_;refine S7 ?_;refine JX J (JZ (k:=0) J jE J J) (.tmp J) ?_
    intro w' hs
    have hg:=hs.all 17 _ rfl
    have ho:OwnG w.heap.size w'.heap.size w' oA (vR rs ss how).length (Wq (vR rs ss how)) :=UW hg.1 (fun b hb=> (hg.2.1 b hb).elim id (fun h=>by cases h))
    have hol:=ON (vR rs ss how)
    refine⟨if J0 (Wq (vR rs ss how)) =true then oA else none,if J0 (Wq (vR rs ss how)) =true then oc else 0,?_,?_,hs.fin⟩
    cases hb:J0 (Wq (vR rs ss how))
    simp [Lv,yf,hb]
    simp [Lv,yf,hb,hol]
    cases hb:J0 (Wq (vR rs ss how))
    simpa [Lv,hb] using OwnG.nil none
    simpa [Lv,hb,hol] using ho
end Go.Proofs.YtbahojdbmmjkcaaGreat
namespace Go.Proofs.YtbahojdbmmjkcaaGreat
open Go Go.RowKit
theorem RingsC.rings {w:World} {A:Option Addr} {n:Nat} {rs:List Jp} (h:RingsC w A n rs) (hs:∀r∈rs,r.length≤1048577) :Rings w A n rs:=⟨h.1,fun hn=>by
 have hl:=h.1
 obtain ⟨b,o,hA,hb,hc⟩ :=h.2 hn
 refine⟨b,o,hA,hb,fun k hk=> ?_⟩
 obtain ⟨Ak,ck,h1,h2,h3⟩ :=hc k hk
 have:=hs rs[k] (jir Om)
 rw [Wc Om] at this
 exact⟨Ak,ck,h1,h2,by omega⟩⟩
end Go.Proofs.YtbahojdbmmjkcaaGreat
namespace Go.Proofs.YtbahojdbmmjkcaaGreat
open Go Go.RowKit
variable {cl:Bool} {path pen:List Pn} {rs:List Jp}
set_option maxRecDepth 100000
set_option maxHeartbeats 4000000
theorem RF (A:Option Addr) (n c:Nat) (rs:List Jp) (A2:Option Addr) (n2 c2_:Nat) (ss:List Jp) (w:World) (h:Rings w A n rs) (hm: (n:Int)≤9223372036854775807) (h2:Rings w A2 n2 ss) (hm2: (n2:Int)≤9223372036854775807) :
  Calls Tryz.prog 11 #[qG A n c,qG A2 n2 c2_] w fun e w'=>∃A' c',e= .returned (.tuple #[qG A' (yU rs ss 1).length c', .int .i64 (BT rs ss 1)])∧OwnG w.heap.size w'.heap.size w' A' (yU rs ss 1).length (yU rs ss 1)∧Over w w':=by
 refine jK (m:=11) (Tryz.func11) J J (lb J) ?_;refine S3 ?_;refine aX (fun b1=> ?_);refine N1 ?_;refine aX (fun b2=> ?_);refine N1 ?_;refine aL (fun b3=> ?_);refine N7 ?_;refine JQ Yc (X:= (Option Addr×Nat)×Nat×Nat) (v:=fun x=> .tuple #[qG x.1.1 (yU rs ss 1).length x.1.2, .int .i64 (BT rs ss 1)]) (r:=fun x=>kx (yU rs ss 1).length (yU rs ss 1) x.2.1 x.2.2 x.1.1) (H:=fun _=>True) J J J (lb J) (fun w1 hs=>K7 (V:=fun A' c'=> .tuple #[qG A' (yU rs ss 1).length c', .int .i64 (BT rs ss 1)]) (Z2 A n c rs A2 n2 c2_ ss 1 w1 (h.over hs.fin) hm (h2.over hs.fin) hm2)) ?_
 rintro⟨⟨oA,oc⟩,olo,ohi⟩ -
 refine N7 ?_;refine JX J (JZ (k:=2) J jE J J) (.tmp J) ?_
 intro w' hs
 have hg:=hs.all 3 _ rfl
 have ho:=UW hg.1 (fun b hb=> (hg.2.1 b hb).elim id (fun h=>by cases h))
 exact⟨oA,oc,rfl,ho,hs.fin⟩
theorem jdh (w:World) :Rings w none 0 [] :=⟨rfl,fun h=>absurd h Dc⟩
theorem jgg (h:J0 rs=true) :yU rs [] 1=Nb rs [] 1∧BT rs [] 1=coC rs [] 1:=jfC (by rw [Gk,h];rfl) rfl
theorem CI {n:Nat} (hl:rs.length=n) (ht: (total rs:Int)≤1048576) : (n:Int)≤9223372036854775807:=by
 unfold total at ht
 omega
theorem xM (A:Option Addr) (n c:Nat) (rs:List Jp) (w:World) (h:Rings w A n rs) (ht: (total rs:Int)≤1048576) :
  Calls Tryz.prog 147 #[qG A n c] w fun e w'=>∃A' c',e= .returned (.tuple #[qG A' (yU rs [] 1).length c', .int .i64 (BT rs [] 1)])∧OwnG w.heap.size w'.heap.size w' A' (yU rs [] 1).length (yU rs [] 1)∧Over w w':=by
 refine jK (m:=9) (Tryz.func147) J J (lb J) ?_;refine S3 ?_;refine aX (fun b1=> ?_);refine N1 ?_;refine aL (fun b2=> ?_);refine N5 ?_;refine a9 (JF J J (JJ)) ?_;refine S1 ?_;refine JQ LA (X:= (Option Addr×Nat)×Nat×Nat) (v:=fun x=> .tuple #[qG x.1.1 (yU rs [] 1).length x.1.2, .int .i64 (BT rs [] 1)]) (r:=fun x=>kx (yU rs [] 1).length (yU rs [] 1) x.2.1 x.2.2 x.1.1) (H:=fun _=>True) J J J (lb J) (fun w1 hs=>K7 (V:=fun A' c'=> .tuple #[qG A' (yU rs [] 1).length c', .int .i64 (BT rs [] 1)]) (RF A n c rs none 0 0 [] w1 (h.over hs.fin) (CI h.1 ht) (jdh w1) Dc)) ?_
 rintro⟨⟨oA,oc⟩,olo,ohi⟩ -
 refine N7 ?_;refine JX J (JZ (k:=1) J jE J J) (.tmp J) ?_
 intro w' hs
 have hg:=hs.all 2 _ rfl
 have ho:=UW hg.1 (fun b hb=> (hg.2.1 b hb).elim id (fun h=>by cases h))
 exact⟨oA,oc,rfl,ho,hs.fin⟩
theorem YQ (A:Option Addr) (n c:Nat) (rs:List Jp) (w:World) (h:Rings w A n rs) (ht: (total rs:Int)≤1048576) :
  Calls Tryz.prog 92 #[qG A n c] w fun e w'=>∃A' c',e= .returned (.tuple #[qG A' (yU rs [] 1).length c', .int .i64 (BT rs [] 1)])∧OwnG w.heap.size w'.heap.size w' A' (yU rs [] 1).length (yU rs [] 1)∧Over w w':=by
 refine jK (m:=12) (Tryz.func92) J J (lb J) ?_;refine S3 ?_;refine aX (fun b1=> ?_);refine N1 ?_;refine aL (fun b2=> ?_);refine N5 ?_;refine a9 (jG W9 J J (fun w1 hs=>Gy _ _ A n c rs w1 (qq (k:=0) J J w1 hs) (J4 (hs.cel (k:=0) J)) (h.over hs.fin) (CI h.1 ht))) ?_;refine S2 ?_;refine cZ (fun c1=> ?_) (fun c1=> ?_)
 ·refine S2 ?_;refine a9 (JF J J (JJ)) ?_;refine S6 ?_;refine JX J (JZ (k:=1) J jE J J) (.tmp J) ?_
  intro w' hs
  obtain ⟨e1,e2⟩ :=jbF (ss:= []) (how:=1) (rs:=rs) (by rw [Gk];simp [c1])
  exact⟨none,0,by rw [e1,e2];rfl,by rw [e1];exact OwnG.nil none,hs.fin⟩
 ·have hr:J0 rs=true:= (by simpa using c1)
  obtain ⟨e1,e2⟩ :=jgg hr
  rw [e1,e2]
  refine S4 ?_;refine a9 (JF J J (JJ)) ?_;refine S1 ?_;refine aX (fun b3=> ?_);refine N1 ?_;refine JQ xv (X:= (Option Addr×Nat)×Nat×Nat) (v:=fun x=> .tuple #[qG x.1.1 (Nb rs [] 1).length x.1.2, .int .i64 (coC rs [] 1)]) (r:=fun x=>kx (Nb rs [] 1).length (Nb rs [] 1) x.2.1 x.2.2 x.1.1) (H:=fun _=>True) J J J (lb J) (fun w1 hs=>K7 (V:=fun A' c'=> .tuple #[qG A' (Nb rs [] 1).length c', .int .i64 (coC rs [] 1)]) (M9 _ _ _ _ A n c rs none 0 0 [] 1 w1 (qq (k:=0) J J w1 hs) (J4 (hs.cel (k:=0) J)) (qq (k:=2) J J w1 hs) (J4 (hs.cel (k:=2) J)) (h.over hs.fin) (jdh w1) hr J)) ?_
  rintro⟨⟨oA,oc⟩,olo,ohi⟩ -
  refine N7 ?_;refine JX J (JZ (k:=1) J jE J J) (.tmp J) ?_
  intro w' hs
  have hg:=hs.all 3 _ rfl
  have ho:=UW hg.1 (fun b hb=> (hg.2.1 b hb).elim id (fun h=>by cases h))
  exact⟨oA,oc,rfl,ho,hs.fin⟩
def soR (pen path:List Pn) (cl:Bool) :List Jp:=if G9 pen path cl=0 then yU (uy pen path cl) [] 1 else []
def soC (pen path:List Pn) (cl:Bool) :Int:=if G9 pen path cl=0 then BT (uy pen path cl) [] 1 else G9 pen path cl
theorem jf0 (h:¬G9 pen path cl=0) :soR pen path cl= []∧soC pen path cl=G9 pen path cl:=⟨if_neg h,if_neg h⟩
theorem jdE (h:G9 pen path cl=0) :soR pen path cl=yU (uy pen path cl) [] 1∧soC pen path cl=BT (uy pen path cl) [] 1:=⟨if_pos h,if_pos h⟩
theorem jaV (pen path:List Pn) (cl:Bool) :smallR (soR pen path cl) :=by
 unfold soR
 split
 ·exact ES _ _ _
 ·exact smallR.nil
theorem jdq (pen path:List Pn) (cl:Bool) : (total (uy pen path cl) :Int)≤1048576:=jjs (Fu pen path cl).total Dc
theorem FR (A:Option Addr) (n c:Nat) (pen:List Pn) (B:Option Addr) (m d:Nat) (path:List Pn) (cl:Bool) (w:World) (h:Pts w A n pen) (h2:Pts w B m path) (hn: (n:Int)≤1048576) (hm: (m:Int)≤1048576) :
  Calls Tryz.prog 88 #[.slice A n c, .slice B m d, .bool cl] w fun e w'=>∃A' c',e= .returned (.tuple #[qG A' (soR pen path cl).length c', .int .i64 (soC pen path cl)])∧OwnG w.heap.size w'.heap.size w' A' (soR pen path cl).length (soR pen path cl)∧Over w w':=by
 refine jK (m:=25) (Tryz.func88) J J (lb J) ?_;refine S3 ?_;refine aL (fun b1=> ?_);refine N8 ?_;refine JQ Xt (X:= (Option Addr×Nat)×Nat×Nat) (v:=fun x=> .tuple #[qG x.1.1 (uy pen path cl).length x.1.2, .int .i64 (G9 pen path cl)]) (r:=fun x=>kx (uy pen path cl).length (uy pen path cl) x.2.1 x.2.2 x.1.1) (H:=fun _=>True) J J J (lb J) (fun w1 hs=>y4 (BN A n c pen B m d path cl w1 (h.over hs.fin) (h2.over hs.fin) hn hm)) ?_
 rintro⟨⟨gA,gc⟩,glo,ghi⟩ -
 refine N4 ?_;refine aL (fun b2=> ?_);refine N10 ?_;refine cZ (fun c1=> ?_) (fun c1=> ?_)
 ·obtain ⟨e1,e2⟩ :=jf0 (by simpa using c1)
  refine S2 ?_;refine a9 (JF J J (JJ)) ?_;refine S7 ?_;refine JX J (JZ (k:=0) J jE J J) (.tmp J) ?_
  intro w' hs
  exact⟨none,0,by rw [e1,e2];rfl,by rw [e1];exact OwnG.nil none,hs.fin⟩
 ·obtain ⟨e1,e2⟩ :=jdE (by simpa using c1)
  refine S6 ?_;refine JQ YO (X:= (Option Addr×Nat)×Nat×Nat) (v:=fun x=> .tuple #[qG x.1.1 (yU (uy pen path cl) [] 1).length x.1.2, .int .i64 (BT (uy pen path cl) [] 1)]) (r:=fun x=>kx (yU (uy pen path cl) [] 1).length (yU (uy pen path cl) [] 1) x.2.1 x.2.2 x.1.1) (H:=fun _=>True) J J J (lb J) (fun w1 hs=>K7 (V:=fun A' c'=> .tuple #[qG A' (yU (uy pen path cl) [] 1).length c', .int .i64 (BT (uy pen path cl) [] 1)]) (xM _ _ _ (uy pen path cl) w1 (V0 (k:=1) J w1 hs) (jdq _ _ _))) ?_
  rintro⟨⟨oA,oc⟩,olo,ohi⟩ -
  refine N7 ?_;refine JX J (JZ (k:=0) J jE J J) (.tmp J) ?_
  intro w' hs
  exact⟨oA,oc,by rw [e1,e2],by rw [e1];exact UW (hs.all 3 _ rfl).1 (fun b hb=> ((hs.all 3 _ rfl).2.1 b hb).elim id (fun h=>by cases h)),hs.fin⟩
theorem Hh (A:Option Addr) (n c:Nat) (pen:List Pn) (B:Option Addr) (m d:Nat) (path:List Pn) (cl:Bool) (w:World) (h:Pts w A n pen) (h2:Pts w B m path) (hn: (n:Int)≤1048576) (hm: (m:Int)≤1048576) :
  Calls Tryz.prog 82 #[.slice A n c, .slice B m d, .bool cl] w fun e w'=>∃A' c',e= .returned (.tuple #[qG A' (soR pen path cl).length c', .int .i64 (soC pen path cl)])∧OwnG w.heap.size w'.heap.size w' A' (soR pen path cl).length (soR pen path cl)∧Over w w':=by
 refine jK (m:=25) (Tryz.func82) J J (lb J) ?_;refine S3 ?_;refine aL (fun b1=> ?_);refine N8 ?_;refine JQ Ov (X:= (Option Addr×Nat)×Nat×Nat) (v:=fun x=> .tuple #[qG x.1.1 (uy pen path cl).length x.1.2, .int .i64 (G9 pen path cl)]) (r:=fun x=>kx (uy pen path cl).length (uy pen path cl) x.2.1 x.2.2 x.1.1) (H:=fun _=>True) J J J (lb J) (fun w1 hs=>y4 (NU A n c pen B m d path cl w1 (h.over hs.fin) (h2.over hs.fin) hn hm)) ?_
 rintro⟨⟨gA,gc⟩,glo,ghi⟩ -
 refine N4 ?_;refine aL (fun b2=> ?_);refine N10 ?_;refine cZ (fun c1=> ?_) (fun c1=> ?_)
 ·obtain ⟨e1,e2⟩ :=jf0 (by simpa using c1)
  refine S2 ?_;refine a9 (JF J J (JJ)) ?_;refine S7 ?_;refine JX J (JZ (k:=0) J jE J J) (.tmp J) ?_
  intro w' hs
  exact⟨none,0,by rw [e1,e2];rfl,by rw [e1];exact OwnG.nil none,hs.fin⟩
 ·obtain ⟨e1,e2⟩ :=jdE (by simpa using c1)
  refine S6 ?_;refine JQ YP (X:= (Option Addr×Nat)×Nat×Nat) (v:=fun x=> .tuple #[qG x.1.1 (yU (uy pen path cl) [] 1).length x.1.2, .int .i64 (BT (uy pen path cl) [] 1)]) (r:=fun x=>kx (yU (uy pen path cl) [] 1).length (yU (uy pen path cl) [] 1) x.2.1 x.2.2 x.1.1) (H:=fun _=>True) J J J (lb J) (fun w1 hs=>K7 (V:=fun A' c'=> .tuple #[qG A' (yU (uy pen path cl) [] 1).length c', .int .i64 (BT (uy pen path cl) [] 1)]) (YQ _ _ _ (uy pen path cl) w1 (V0 (k:=1) J w1 hs) (jdq _ _ _))) ?_
  rintro⟨⟨oA,oc⟩,olo,ohi⟩ -
  refine N7 ?_;refine JX J (JZ (k:=0) J jE J J) (.tmp J) ?_
  intro w' hs
  exact⟨oA,oc,by rw [e1,e2],by rw [e1];exact UW (hs.all 3 _ rfl).1 (fun b hb=> ((hs.all 3 _ rfl).2.1 b hb).elim id (fun h=>by cases h)),hs.fin⟩
end Go.Proofs.YtbahojdbmmjkcaaGreat
