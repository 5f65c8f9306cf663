import Derived.Test.YtkagkgjjfdkoaaaGreatMCmbW
set_option linter.unusedVariables false
set_option linter.unusedSimpArgs false
namespace Go.Proofs.YtkagkgjjfdkoaaaGreat
open Go Go.RowKit
set_option maxRecDepth 100000
set_option maxHeartbeats 4000000
theorem Sd (A:Option Addr) (n c:Nat) (rs:List jS) (w:World) (h:Rings w A n rs) (hm: (n:Int)≤9223372036854775807) :
  Calls Tryz.prog 64 #[Ju A n c] w fun e w'=>e= .returned (.tuple #[Ju (if JO rs=true then A else none) (if JO rs=true then n else 0) (if JO rs=true then c else 0), .int .i64 (Hi rs)])∧Over w w':=by
 refine jU (m:=8) (Tryz.func64) J J (lb J) ?_;refine S3 ?_;refine aX (fun b1=> ?_);refine N1 ?_;refine aL (fun b2=> ?_);refine N5 ?_;refine a9 (jH KW J J (fun w1 hs=>WF _ _ A n c rs w1 (qo (k:=0) J J w1 hs) (JQ (hs.cel (k:=0) J)) (h.over hs.fin) hm)) ?_;refine S2 ?_;refine cZ (fun c1=> ?_) (fun c1=> ?_)
 ·refine S2 ?_;refine a9 (JV J J (qf)) ?_;refine S6 ?_;refine J6 J (J3 (k:=1) J jn J J) (.tmp J) ?_
  intro w' hs
  exact⟨by simp [Hi,c1],hs.fin⟩
 ·refine S10 ?_;refine J6 J (J3 (k:=1) J jn J J) (.tmp J) ?_
  intro w' hs
  exact⟨by simp [Hi,c1],hs.fin⟩
theorem YH (p1 q1 p2 q2:Nat) (A:Option Addr) (n c:Nat) (rs:List jS) (A2:Option Addr) (n2 c2_:Nat) (ss:List jS) (how:Int) (w:World) (hc1:w.cell? ⟨p1,q1,none⟩ =some (.slice A n c)) (hb1:p1<w.heap.size) (hc2:w.cell? ⟨p2,q2,none⟩ =some (.slice A2 n2 c2_)) (hb2:p2<w.heap.size) (h:Rings w A n rs) (h2:Rings w A2 n2 ss) (hr:JO rs=true) (hr2:JO ss=true) :
  Calls Tryz.prog 35 #[.pointer (some ⟨p1,q1,none⟩), .pointer (some ⟨p2,q2,none⟩), .int .i64 how] w fun e w'=>∃A' c',e= .returned (.tuple #[Ju A' (Ob rs ss how).length c', .int .i64 (NS rs ss how)])∧OwnG w.heap.size w'.heap.size w' A' (Ob rs ss how).length (Ob rs ss how)∧Over w w':=by
 have hl:=h.1
 have hl2:=h2.1
 have ht1:= (smallR.of hr).total
 have ht2:= (smallR.of hr2).total
 have hE1:=Ga hr
 have hE2:=Ga hr2
 refine jU (m:=67) (Tryz.func35) J J (lb J) ?_;refine S3 ?_;refine aL (fun b1=> ?_);refine N6 ?_;refine jP Vj (v:=fun x=> .slice x.1 (Jm rs).length x.2) (r:=fun x=>JP 0 118 4 (Jm rs).length ((Jm rs).flatMap jZ) x) (H:=fun _=>True) J J J (lb J) (fun w1 hs=>yu p1 q1 A n c rs w1 J (qU hc1 hb1 w1 hs) (jeR hb1 hs.fin.size) (h.over hs.fin) (jf8 ht1 (by decide))) ?_
 rintro⟨eA,ec⟩ -
 refine N2 ?_;refine jP Vj (v:=fun x=> .slice x.1 (Jm ss).length x.2) (r:=fun x=>JP 0 118 4 (Jm ss).length ((Jm ss).flatMap jZ) x) (H:=fun _=>True) J J J (lb J) (fun w1 hs=>yu p2 q2 A2 n2 c2_ ss w1 J (qU hc2 hb2 w1 hs) (jeR hb2 hs.fin.size) (h2.over hs.fin) (jf8 ht2 (by decide))) ?_
 rintro⟨fA,fc⟩ -
 refine N1 ?_;refine JL (k:=1) J Jr QX (by decide) J (by decide) J J J (fun w' hs=>jcg hs (k:=2) J) (LR _) (by unfold maxLen;omega) (by omega) (jeE _) (fun r1=> ?_);refine N2 ?_
 rw [←jeQ,←jeC]
 rw [show Jm rs++Jm ss=Fm rs ss from rfl]
 refine S7 ?_;refine cZ (fun c1=> ?_) (fun c1=> ?_)
 ·refine S2 ?_;refine a9 (JV J J (qf)) ?_;refine S6 ?_;refine J6 J (J3 (k:=0) J jn J J) (.tmp J) ?_
  intro w' hs
  have hno:=Tr (rs:=rs) (ss:=ss) (show¬(Fm rs ss).length≤400 by omega)
  obtain ⟨e3,e4⟩ :=HK (how:=how) hno
  exact⟨none,0,by rw [e3,e4];rfl,by rw [e3];exact OwnG.nil none,hs.fin⟩
 ·have h4: (Fm rs ss).length≤400:= (by omega)
  have hC:CmOk rs ss:=⟨hr,hr2,h4⟩
  have hk:=hC.hot1
  have hk2:=hC.hot2
  refine S6 ?_;refine jP L9 (v:=fun x:Option Addr×Nat=> .slice x.1 (Yv rs ss).length x.2) (r:=fun x=>JP 0 54 2 (Yv rs ss).length ((Yv rs ss).flatMap j7) x) (H:=fun _=>True) J J J (lb J) (fun w1 hs=>qS (Se r1.1 _ r1.2 (Fm rs ss) w1 (we (k:=1) (x:=r1) (ls:=Fm rs ss) J J w1 hs) hC.legs h4)) ?_
  rintro⟨pA,pc⟩ -
  refine N6 ?_;refine jP yY (X:= (Option Addr×Nat)×Nat×Nat) (v:=fun x=>Ju x.1.1 (J4 rs).length x.1.2) (r:=fun x=>JD (J4 rs).length (J4 rs) x.2.1 x.2.2 x.1.1) (H:=fun _=>True) J J J (lb J) (fun w1 hs=>Qm (GB p1 q1 A n c rs w1 (qU hc1 hb1 w1 hs) (jeR hb1 hs.fin.size) (h.over hs.fin) hr)) ?_
  rintro⟨⟨gA,gc⟩,glo,ghi⟩ -
  refine N1 ?_;refine aL (fun b2=> ?_);refine N7 ?_;refine jP yY (X:= (Option Addr×Nat)×Nat×Nat) (v:=fun x=>Ju x.1.1 (J4 ss).length x.1.2) (r:=fun x=>JD (J4 ss).length (J4 ss) x.2.1 x.2.2 x.1.1) (H:=fun _=>True) J J J (lb J) (fun w1 hs=>Qm (GB p2 q2 A2 n2 c2_ ss w1 (qU hc2 hb2 w1 hs) (jeR hb2 hs.fin.size) (h2.over hs.fin) hr2)) ?_
  rintro⟨⟨kA,kc⟩,klo,khi⟩ -
  refine N1 ?_;refine aL (fun b3=> ?_);refine N7 ?_;refine jP Ue (X:= (Option Addr×Nat)×Nat×Nat) (v:=fun x=> .tuple #[Ju x.1.1 (Yu rs ss).length x.1.2, .int .i64 (Nq (Yv rs ss) (J4 rs)), .bool (W6 rs ss)]) (r:=fun x=>JD (Yu rs ss).length (Yu rs ss) x.2.1 x.2.2 x.1.1) (H:=fun _=>True) J J J (lb J) (fun w1 hs=>Qm (V:=fun A' c'=> .tuple #[Ju A' (Yu rs ss).length c', .int .i64 (Nq (Yv rs ss) (J4 rs)), .bool (W6 rs ss)]) (zW _ _ gA _ gc (J4 rs) pA (Yv rs ss).length pc (Yv rs ss) w1 (qo (k:=5) J J w1 hs) (JQ (hs.cel (k:=5) J)) (Vy (hs.all 4 _ J).1).rings hk.reg (vx (hs.all 3 _ J).1 J) hk.len hk.ok hk.nd hk.bare)) ?_
  rintro⟨⟨hA,hc⟩,hlo,hhi⟩ -
  refine N5 ?_;refine aL (fun b4=> ?_);refine N9 ?_;refine jP Ue (X:= (Option Addr×Nat)×Nat×Nat) (v:=fun x=> .tuple #[Ju x.1.1 (yo rs ss).length x.1.2, .int .i64 (Nq (Yv rs ss) (J4 ss)), .bool (Uu rs ss)]) (r:=fun x=>JD (yo rs ss).length (yo rs ss) x.2.1 x.2.2 x.1.1) (H:=fun _=>True) J J J (lb J) (fun w1 hs=>Qm (V:=fun A' c'=> .tuple #[Ju A' (yo rs ss).length c', .int .i64 (Nq (Yv rs ss) (J4 ss)), .bool (Uu rs ss)]) (zW _ _ kA _ kc (J4 ss) pA (Yv rs ss).length pc (Yv rs ss) w1 (qo (k:=7) J J w1 hs) (JQ (hs.cel (k:=7) J)) (Vy (hs.all 6 _ J).1).rings hk2.reg (vx (hs.all 3 _ J).1 J) hk2.len hk2.ok hk2.nd hk2.bare)) ?_
  rintro⟨⟨mA,mc⟩,mlo,mhi⟩ -
  refine N5 ?_;refine aL (fun b5=> ?_);refine N1 ?_;refine j9 11 jk.szx ?_;refine N4 ?_;refine qd [(51, .bool (!(W6 rs ss&&Uu rs ss)))] (kK [2,6,7,12,15]) (fun L h_9=> ?_) ?_
  ·refine S4 ?_;refine cV 48 (fun g1=> ?_) (fun g1=> ?_)
   ·refine S4 ?_
    exact Jb h_9 ⟨vb (by rw [g1];rfl),sz⟩ (u9 J)
   ·refine S6 ?_
    exact Jb h_9 ⟨vb (by rw [g1,jfe]),sz⟩ (u9 J)
  ·refine v9 ?_;refine cZ (fun c2=> ?_) (fun c2=> ?_)
   ·refine S2 ?_;refine a9 (JV J J (qf)) ?_;refine S6 ?_;refine J6 J (J3 (k:=0) J jn J J) (.tmp J) ?_
    intro w' hs
    have hO: (W6 rs ss&&Uu rs ss) =false:= (by simpa using c2)
    obtain ⟨e3,e4⟩ :=HK (how:=how) (C1 hO)
    exact⟨none,0,by rw [e3,e4];rfl,by rw [e3];exact OwnG.nil none,hs.fin⟩
   ·have hO: (W6 rs ss&&Uu rs ss) =true:= (by simpa using c2)
    have hO1:W6 rs ss=true:= (by rw [jeF] at hO;exact hO.1)
    have hO2:Uu rs ss=true:= (by rw [jeF] at hO;exact hO.2)
    have hg1:= (GW hk hO1).1
    have hg2:= (GW hk2 hO2).1
    have hs1:= (smallR.of hg1).total
    have hs2:= (smallR.of hg2).total
    have hTw:=hC.two hO1 hO2
    have hPr:=hC.pair hO1 hO2
    have hoT:=hC.okT hO1 hO2 how
    obtain ⟨e3,e4⟩ :=CN (how:=how) (C0 h4 hO)
    rw [e3,e4]
    obtain ⟨E1,hE1'⟩ :∃E,E=Jm (Yu rs ss) :=⟨_,rfl⟩
    obtain ⟨E2,hE2'⟩ :∃E,E=Jm (yo rs ss) :=⟨_,rfl⟩
    have hBr:Kh rs ss how=vq E1 E2 how:= (by rw [hE1',hE2'];rfl)
    have hf1:Fine (Jm (Yu rs ss)) :=Z9 hg1
    have hf2:Fine (Jm (yo rs ss)) :=Z9 hg2
    rw [←hE1',←hE2'] at hTw hPr
    rw [←hE1'] at hf1
    rw [←hE2'] at hf2
    have hsm:=Cz (how:=how) hTw hf1 hf2 hPr
    obtain ⟨netFst,hN1⟩ :∃N,N=qW false E1 [] :=⟨_,rfl⟩
    obtain ⟨NL,hNL⟩ :∃N,N=qW true E2 netFst:=⟨_,rfl⟩
    have hNe:NL=vY E1 E2:= (by rw [hNL,hN1];rfl)
    have hl1:=hTw.lnE
    have hl2':=hTw.lnF
    have hNl:NL.length≤800:= (by have:=jcn E1 E2;rw [←hNe] at this;omega)
    have hNa:∀t,aS t NL≤800:= (fun t=>by have:=jd8 E1 E2 t;rw [←hNe] at this;omega)
    rw [←hNe,←hBr] at hsm
    have hBo:BoOk (Kh rs ss how) := (by rw [hBr];exact Zg hTw)
    have hN1l:netFst.length≤400:= (by have:=Wx (s:=false) E1 [];rw [←hN1] at this;simp only [je6] at this;omega)
    have hN1a:∀t,aS t netFst≤4096:= (fun t=>by have:=Yh (s:=false) (t:=t) E1 [];rw [←hN1,Cj] at this;split at this<;>omega)
    have hNo:∀y∈NL,qO y.e:= (fun y hy=> (xq hTw.ok hTw.ne (p:=y.e) (by rw [←MQ,←hNe];exact je7.2 ⟨_,hy,rfl⟩)).1.ok)
    refine S3 ?_;refine kz (T:=125) (s:=8) ?_;refine ji (by simp only [jeL,jeG,jeM,jeO,jeJ,jeI,Value.cells,jeK];rfl) ?_;refine S2 ?_;refine jP Vj (v:=fun x=> .slice x.1 E1.length x.2) (r:=fun x=>JP 0 118 4 E1.length (E1.flatMap jZ) x) (H:=fun _=>True) J J J (lb J) (fun w1 hs=>yu _ _ hA _ hc (Yu rs ss) w1 hE1' (qo (k:=9) J J w1 hs) (JQ (hs.cel (k:=9) J)) (Vy (hs.all 8 _ J).1).rings (jf8 hs1 (by decide))) ?_
    rintro⟨xA,xc⟩ -
    refine N1 ?_;refine WZ (k:=12) (X:=Option Addr×Nat) (v:=fun y=> .slice y.1 netFst.length y.2) (r':=fun y=>Fr netFst y) YP J J J (by decide) J (fun w1 hs=>hN1▸LP xA _ xc E1 false [] (none,0) w1 (UX (hs.all 13 _ J).1 J) hTw.ok1 (by omega) (by simp) (fun t=>by rw [Cj];omega) (jdC _ _ _ _) (fun _ p _=>by simp [PF])) ?_
    rintro⟨lA,lc⟩
    refine N1 ?_;refine jP Vj (v:=fun x=> .slice x.1 E2.length x.2) (r:=fun x=>JP 0 118 4 E2.length (E2.flatMap jZ) x) (H:=fun _=>True) J J J (lb J) (fun w1 hs=>yu _ _ mA _ mc (yo rs ss) w1 hE2' (qo (k:=11) J J w1 hs) (JQ (hs.cel (k:=11) J)) (Vy (hs.all 10 _ J).1).rings (jf8 hs2 (by decide))) ?_
    rintro⟨yA,yc⟩ -
    refine N1 ?_;refine WZ (k:=12) (X:=Option Addr×Nat) (v:=fun y=> .slice y.1 NL.length y.2) (r':=fun y=>Fr NL y) YP J J J (by decide) J (fun w1 hs=>hNL▸LP yA _ yc E2 true netFst (lA,lc) w1 (UX (hs.all 14 _ J).1 J) hTw.ok2 (by omega) (by omega) hN1a (hs.all 12 _ J).1 (fun _ p hp hb=>hs.apart 12 14 _ _ (by decide) J J p.block (X9.2 hb) (by show Value.ownBlock (.slice yA E2.length yc) =some p.block;rw [hp];rfl))) ?_
    rintro⟨zA,zc⟩
    refine N6 ?_;refine QB (k:=12) (r':=JP 0 125 8 NL.length ((ul NL).flatMap qe) (zA,zc)) X1 J J J (by decide) J (fun w1 hs=>Du NL (zA,zc) w1 (hs.all 12 _ J).1 hNo (by omega) (fun t=>by have:=hNa t;omega)) (fun _ h=>h) J ?_;refine N6 ?_;refine jP xS (v:=fun x:Option Addr×Nat=> .slice x.1 (Kh rs ss how).length x.2) (r:=fun x=>JP 0 118 4 (Kh rs ss how).length ((Kh rs ss how).flatMap jZ) x) (H:=fun _=>True) J J J (lb J) (fun w1 hs=>qS (by have:=Om NL (zA,zc) how w1 (hs.all 12 _ J).1 (by omega) (fun t=>by have:=hNa t;omega);rw [hsm] at this;exact this)) ?_
    rintro⟨bA,bc⟩ -
    refine N1 ?_;refine jP X2 (X:= (Option Addr×Nat)×Nat×Nat) (v:=fun x=> .slice x.1.1 (vJ rs ss how).length x.1.2) (r:=fun x=>JD (vJ rs ss how).length (vJ rs ss how) x.2.1 x.2.2 x.1.1) (H:=fun _=>True) J J J (lb J) (fun w1 hs=>Qm (V:=fun A' c'=> .slice A' (vJ rs ss how).length c') (Dv bA _ bc (Kh rs ss how) w1 (we (k:=15) (x:= (bA,bc)) (ls:=Kh rs ss how) J J w1 hs) hBo)) ?_
    rintro⟨⟨tA,tc⟩,tlo,thi⟩ -
    refine N1 ?_;refine jP UR (X:= (Option Addr×Nat)×Nat×Nat) (v:=fun x=>Ju x.1.1 (vJ rs ss how).length x.1.2) (r:=fun x=>JD (vJ rs ss how).length (VD (vJ rs ss how)) x.2.1 x.2.2 x.1.1) (H:=fun _=>True) J J J (lb J) (fun w1 hs=>Qm (V:=fun A' c'=>Ju A' (vJ rs ss how).length c') (xt tA _ tc (vJ rs ss how) w1 (Vy (hs.all 16 _ J).1).rings hoT)) ?_
    rintro⟨⟨oA,oc⟩,olo,ohi⟩ -
    refine n9 ?_;refine a9 (jH L8 J J (fun w1 hs=>Sd oA _ oc (VD (vJ rs ss how)) w1 (Vy (hs.all 17 _ J).1).rings (by have:=hoT.1;omega))) ?_;refine S7 ?_;refine J6 J (J3 (k:=0) J jn J J) (.tmp J) ?_
    intro w' hs
    have hg:=hs.all 17 _ rfl
    have ho:OwnG w.heap.size w'.heap.size w' oA (vJ rs ss how).length (VD (vJ rs ss how)) :=wn hg.1 (fun b hb=> (hg.2.1 b hb).elim id (fun h=>by cases h))
    have hol:=UT (vJ rs ss how)
    refine⟨if JO (VD (vJ rs ss how)) =true then oA else none,if JO (VD (vJ rs ss how)) =true then oc else 0,?_,?_,hs.fin⟩
    cases hb:JO (VD (vJ rs ss how))
    simp [XL,Hi,hb]
    simp [XL,Hi,hb,hol]
    cases hb:JO (VD (vJ rs ss how))
    simpa [XL,hb] using OwnG.nil none
    simpa [XL,hb,hol] using ho
theorem Qd (A:Option Addr) (n c:Nat) (rs:List jS) (A2:Option Addr) (n2 c2_:Nat) (ss:List jS) (how:Int) (w:World) (h:Rings w A n rs) (hm: (n:Int)≤9223372036854775807) (h2:Rings w A2 n2 ss) (hm2: (n2:Int)≤9223372036854775807) :
  Calls Tryz.prog 19 #[Ju A n c,Ju A2 n2 c2_, .int .i64 how] w fun e w'=>∃A' c',e= .returned (.tuple #[Ju A' (qD rs ss how).length c', .int .i64 (wT rs ss how)])∧OwnG w.heap.size w'.heap.size w' A' (qD rs ss how).length (qD rs ss how)∧Over w w':=by
 have hl:=h.1
 have hl2:=h2.1
 refine jU (m:=23) (Tryz.func19) J J (lb J) ?_;refine S3 ?_;refine aX (fun b1=> ?_);refine N1 ?_;refine aX (fun b2=> ?_);refine N1 ?_;refine aL (fun b3=> ?_);refine N3 ?_;refine qd [(13, .bool (!wm rs ss))] (kK [2,3,4,6,7]) (fun L h_1=> ?_) ?_
 ·refine S1 ?_;refine a9 (jH KW J J (fun w1 hs=>WF _ _ A n c rs w1 (qo (k:=0) J J w1 hs) (JQ (hs.cel (k:=0) J)) (h.over hs.fin) hm)) ?_;refine S2 ?_;refine cV 10 (fun g1=> ?_) (fun g1=> ?_)
  ·refine S4 ?_
   exact Jb h_1 ⟨vb (by rw [wm,g1];rfl),sz⟩ (u9 J)
  ·refine h9 ?_;refine o9 (jH KW J J (fun w1 hs=>WF _ _ A2 n2 c2_ ss w1 (qo (k:=1) J J w1 hs) (JQ (hs.cel (k:=1) J)) (h2.over hs.fin) hm2)) ?_;refine S4 ?_
   exact Jb h_1 ⟨vb (by rw [wm,g1];rfl),sz⟩ (u9 J)
 ·refine v9 ?_;refine cZ (fun c1=> ?_) (fun c1=> ?_)
  ·refine S2 ?_;refine a9 (JV J J (qf)) ?_;refine S6 ?_;refine J6 J (J3 (k:=2) J jn J J) (.tmp J) ?_
   intro w' hs
   obtain ⟨e1,e2⟩ :=RL (how:=how) (by simpa using c1)
   exact⟨none,0,by rw [e1,e2];rfl,by rw [e1];exact OwnG.nil none,hs.fin⟩
  ·have hin:wm rs ss=true:= (by simpa using c1)
   refine S6 ?_;refine a9 (jH zZ J J (fun w1 hs=> (zu _ _ _ w1).mono fun e w2 h=>⟨h.1,h.2▸Over.refl _⟩)) ?_;refine S2 ?_;refine cZ (fun c2=> ?_) (fun c2=> ?_)
   ·refine S2 ?_;refine a9 (JV J J (qf)) ?_;refine S6 ?_;refine J6 J (J3 (k:=2) J jn J J) (.tmp J) ?_
    intro w' hs
    obtain ⟨e1,e2⟩ :=CH (how:=how) hin (by rw [show xl how=XA how 1 4 from rfl];simpa using c2)
    exact⟨none,0,by rw [e1,e2];rfl,by rw [e1];exact OwnG.nil none,hs.fin⟩
   ·obtain ⟨e1,e2⟩ :=CG (how:=how) hin (by rw [show xl how=XA how 1 4 from rfl];simpa using c2)
    rw [e1,e2]
    have hr:JO rs=true:= (by have:=hin;rw [wm,jeF] at this;exact this.1)
    have hr2:JO ss=true:= (by have:=hin;rw [wm,jeF] at this;exact this.2)
    refine S6 ?_;refine jP uS (X:= (Option Addr×Nat)×Nat×Nat) (v:=fun x=> .tuple #[Ju x.1.1 (Ob rs ss how).length x.1.2, .int .i64 (NS rs ss how)]) (r:=fun x=>JD (Ob rs ss how).length (Ob rs ss how) x.2.1 x.2.2 x.1.1) (H:=fun _=>True) J J J (lb J) (fun w1 hs=>Qm (V:=fun A' c'=> .tuple #[Ju A' (Ob rs ss how).length c', .int .i64 (NS rs ss how)]) (YH _ _ _ _ A n c rs A2 n2 c2_ ss how w1 (qo (k:=0) J J w1 hs) (JQ (hs.cel (k:=0) J)) (qo (k:=1) J J w1 hs) (JQ (hs.cel (k:=1) J)) (h.over hs.fin) (h2.over hs.fin) hr hr2)) ?_
    rintro⟨⟨oA,oc⟩,olo,ohi⟩ -
    refine N7 ?_;refine J6 J (J3 (k:=2) J jn J J) (.tmp J) ?_
    intro w' hs
    have hg:=hs.all 3 _ rfl
    have ho:=wn hg.1 (fun b hb=> (hg.2.1 b hb).elim id (fun h=>by cases h))
    exact⟨oA,oc,rfl,ho,hs.fin⟩
end Go.Proofs.YtkagkgjjfdkoaaaGreat
