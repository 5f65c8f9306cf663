import Derived.Test.YtkagkgjjfdkoaaaGreatMBrd2
set_option linter.unusedVariables false
set_option linter.unusedSimpArgs false
namespace Go.Proofs.YtkagkgjjfdkoaaaGreat
open Go Go.RowKit
set_option maxRecDepth 100000
set_option maxHeartbeats 4000000
theorem Ms {P:Program} {f:FuncId} {args:Array Value} {w1:World} {n:Nat} {rs:List jS} {V:Option Addr→Nat→Value} (h:Calls P f args w1 fun e w'=>∃A c,e= .returned (V A c)∧OwnG w1.heap.size w'.heap.size w' A n rs∧(HE w1.heap.size w'.heap.size n rs A).P w'∧Over w1 w') :
  Calls P f args w1 fun e w'=>∃x: (Option Addr×Nat)×Nat×Nat,e= .returned (V x.1.1 x.1.2)∧Over w1 w'∧(HE x.2.1 x.2.2 n rs x.1.1).P w'∧(∀b,(HE x.2.1 x.2.2 n rs x.1.1).F b→w1.heap.size≤b)∧(HE x.2.1 x.2.2 n rs x.1.1).B=0∧True:=by
 refine h.mono ?_
 rintro e w' ⟨A,c,rfl,ho,hc,hO⟩
 exact⟨((A,c),w1.heap.size,w'.heap.size),rfl,hO,hc,fun b hb=>hb.1,sz⟩
theorem PG {lo hi n:Nat} {w:World} {A:Option Addr} {rs:List jS} (h: (HE lo hi n rs A).P w) :RingsC w A n rs:=h.2 w h.1 fun _ _ _=>rfl
theorem RL {rs ss:List jS} {how:Int} (h: (!wm rs ss) =true) :qD rs ss how= []∧wT rs ss how=1:=by
 rw [jfq] at h
 simp [qD,wT,h]
theorem CH {rs ss:List jS} {how:Int} (h:wm rs ss=true) (h2: (!xl how) =true) :qD rs ss how= []∧wT rs ss how=2:=by
 rw [jfq] at h2
 simp [qD,wT,h,h2]
theorem CG {rs ss:List jS} {how:Int} (h:wm rs ss=true) (h2:xl how=true) :qD rs ss how=Ob rs ss how∧wT rs ss how=NS rs ss how:=by
 simp [qD,wT,h,h2]
theorem HK {rs ss:List jS} {how:Int} (h:zU rs ss=false) :Ob rs ss how= []∧NS rs ss how=5:=by simp [Ob,NS,h]
theorem CN {rs ss:List jS} {how:Int} (h:zU rs ss=true) :Ob rs ss how=XL (VD (vJ rs ss how))∧NS rs ss how=Hi (VD (vJ rs ss how)) :=by simp [Ob,NS,h]
theorem jc6 {rs:List jS} (h:JO rs=false) :XL rs= []∧Hi rs=5:=by simp [XL,Hi,h]
theorem jbp {rs:List jS} (h:JO rs=true) :XL rs=rs∧Hi rs=0:=by simp [XL,Hi,h]
theorem Tr {rs ss:List jS} (h:¬(Jm rs++Jm ss).length≤400) :zU rs ss=false:=by simp only [zU,decide_eq_false h,jfp]
theorem C1 {rs ss:List jS} (h: (W6 rs ss&&Uu rs ss) =false) :zU rs ss=false:=by rw [zU,h,Bool.and_false]
theorem C0 {rs ss:List jS} (hl: (Jm rs++Jm ss).length≤400) (h: (W6 rs ss&&Uu rs ss) =true) :zU rs ss=true:=by rw [zU,h,Bool.and_true,decide_eq_true hl]
theorem Qs (A:Option Addr) (n c:Nat) (rs:List jS) (A2:Option Addr) (n2 c2_:Nat) (ss:List jS) (how:Int) (w:World) (h:Rings w A n rs) (hm: (n:Int)≤9223372036854775807) (h2:Rings w A2 n2 ss) (hm2: (n2:Int)≤9223372036854775807) :
  Calls Tryz.prog 20 #[Ju A n c,Ju A2 n2 c2_, .int .i64 how] w fun e w'=>∃A' c',e= .returned (.tuple #[Ju A' (qD rs ss how).length c', .int .i64 (wT rs ss how)])∧OwnG w.heap.size w'.heap.size w' A' (qD rs ss how).length (qD rs ss how)∧Over w w':=by
 have hl:=h.1
 have hl2:=h2.1
 refine jU (m:=78) (Tryz.func20) J J (lb J) ?_;refine S3 ?_;refine aX (fun b1=> ?_);refine N1 ?_;refine aX (fun b2=> ?_);refine N1 ?_;refine aL (fun b3=> ?_);refine N3 ?_;refine qd [(20, .bool (!wm rs ss))] (kK [2,3,4,6,7]) (fun L h_1=> ?_) ?_
 ·refine S2 ?_;refine a9 (jH ka J J (fun w1 hs=>KG A n c rs w1 (h.over hs.fin) hm)) ?_;refine S2 ?_;refine cV 16 (fun g1=> ?_) (fun g1=> ?_)
  ·refine S5 ?_
   exact Jb h_1 ⟨vb (by rw [wm,g1];rfl),sz⟩ (u9 J)
  ·refine S3 ?_;refine o9 (jH ka J J (fun w1 hs=>KG A2 n2 c2_ ss w1 (h2.over hs.fin) hm2)) ?_;refine S4 ?_
   exact Jb h_1 ⟨vb (by rw [wm,g1];rfl),sz⟩ (u9 J)
 ·refine v9 ?_;refine cZ (fun c1=> ?_) (fun c1=> ?_)
  ·refine S2 ?_;refine a9 (JV J J (qf)) ?_;refine S6 ?_;refine J6 J (J3 (k:=2) J jn J J) (.tmp J) ?_
   intro w' hs
   obtain ⟨e1,e2⟩ :=RL (how:=how) (by simpa using c1)
   exact⟨none,0,by rw [e1,e2];rfl,by rw [e1];exact OwnG.nil none,hs.fin⟩
  ·have hin:wm rs ss=true:= (by simpa using c1)
   refine S3 ?_;refine qd [(27, .bool (!xl how))] (kK [2,3,4,6,7]) (fun L h_3=> ?_) ?_
   ·refine S4 ?_;refine cV 24 (fun g2=> ?_) (fun g2=> ?_)
    ·refine S4 ?_
     exact Jb h_3 ⟨vb (by rw [xl,decide_eq_false (show¬1≤how by omega)];rfl),sz⟩ (u9 J)
    ·refine S6 ?_
     exact Jb h_3 ⟨vb (by rw [xl,decide_eq_true (show 1≤how by omega),jfe,jfo];simp),sz⟩ (u9 J)
   ·refine v9 ?_;refine cZ (fun c2=> ?_) (fun c2=> ?_)
    ·refine S2 ?_;refine a9 (JV J J (qf)) ?_;refine S6 ?_;refine J6 J (J3 (k:=2) J jn J J) (.tmp J) ?_
     intro w' hs
     obtain ⟨e1,e2⟩ :=CH (how:=how) hin (by simpa using c2)
     exact⟨none,0,by rw [e1,e2];rfl,by rw [e1];exact OwnG.nil none,hs.fin⟩
    ·obtain ⟨e1,e2⟩ :=CG (how:=how) hin (by simpa using c2)
     rw [e1,e2]
     have hr:JO rs=true:= (by have:=hin;rw [wm,jeF] at this;exact this.1)
     have hr2:JO ss=true:= (by have:=hin;rw [wm,jeF] at this;exact this.2)
     have hb1:=yh hr
     have hb2:=yh hr2
     have ht1:= (smallR.of hb1).total
     have ht2:= (smallR.of hb2).total
     have eb1:=Vw hr
     have eb2:=Vw hr2
     have hE1:=Ga hr
     have hE2:=Ga hr2
     refine S2 ?_;refine KZ (X:= ((Option Addr×Nat)×Nat×Nat)×((Option Addr×Nat)×Nat×Nat)) (fun x=>True) (fun x=> []) (kK [2,3,4,6,7]) (fun x=> [.cel b1 29 [.slice x.1.1.1 (J4 rs).length x.1.1.2], .cel b2 29 [.slice x.2.1.1 (J4 ss).length x.2.1.2], .cel b3 29 [.slice none 0 0],JD (J4 rs).length (J4 rs) x.1.2.1 x.1.2.2 x.1.1.1,JD (J4 ss).length (J4 ss) x.2.2.1 x.2.2.2 x.2.1.1]) (fun L h_5=> ?_) ?_
     ·refine S1 ?_;refine Jw 4 ?_;refine dK 0 ?_;refine dV 2 [3] ?_;refine Jh (i:=1) J (by decide) (by kernel_rfl) J ?_;refine jP uj (X:= (Option Addr×Nat)×Nat×Nat) (v:=fun x=>Ju x.1.1 (J4 rs).length x.1.2) (r:=fun x=>JD (J4 rs).length (J4 rs) x.2.1 x.2.2 x.1.1) (H:=fun _=>True) J J J (lb J) (fun w1 hs=>Qm (yQ A n c rs w1 (h.over hs.fin) hr)) ?_
      rintro⟨⟨gA,gc⟩,glo,ghi⟩ -
      refine n9 ?_;refine Q5 (u9 J) ?_;refine Jh (i:=3) J (by decide) (by kernel_rfl) J ?_;refine jP uj (X:= (Option Addr×Nat)×Nat×Nat) (v:=fun x=>Ju x.1.1 (J4 ss).length x.1.2) (r:=fun x=>JD (J4 ss).length (J4 ss) x.2.1 x.2.2 x.1.1) (H:=fun _=>True) J J J (lb J) (fun w1 hs=>Qm (yQ A2 n2 c2_ ss w1 (h2.over hs.fin) hr2)) ?_
      rintro⟨⟨kA,kc⟩,klo,khi⟩ -
      refine n9 ?_;refine Q5 (u9 J) ?_;refine K4 J (by kernel_rfl) J ?_;refine S1 ?_;refine Q8 6 [1] ?_;refine Jh (i:=5) J (by decide) (by kernel_rfl) J ?_;refine S1 ?_;refine jJ (uw [1] J) ?_;refine Jj (by kernel_rfl) ?_;refine S1 ?_
      exact JZ h_5 ((((gA,gc),glo,ghi),((kA,kc),klo,khi))) (trivial) ⟨J,sz⟩ (fun _ h=>h.picks [0,1,2,3,4] (by decide))
     ·rintro⟨⟨⟨gA,gc⟩,glo,ghi⟩,⟨⟨kA,kc⟩,klo,khi⟩⟩ -
      refine v9 ?_;refine ji (by first | (dsimp only;done) | (dsimp only;rfl) | rfl) ?_;refine KZ (X:=Option Addr×Nat) (fun x=>True) (fun x=> [(8, .slice x.1 (Fm rs ss).length x.2)]) (kK [2,3,4,6,7]) (fun x=> [.cel b1 29 [.slice gA (J4 rs).length gc], .cel b2 29 [.slice kA (J4 ss).length kc], .cel b3 29 [.slice none 0 0],JD (J4 rs).length (J4 rs) glo ghi gA,JD (J4 ss).length (J4 ss) klo khi kA,JP 0 56 4 (Fm rs ss).length ((Fm rs ss).flatMap jZ) x]) (fun L h_6=> ?_) ?_
      ·refine S1 ?_;refine Jw 7 ?_;refine dK 0 ?_;refine dK 2 ?_;refine Jh (i:=1) J (by decide) (by kernel_rfl) J ?_;refine jP kY (v:=fun x:Option Addr×Nat=> .slice x.1 (Jm rs).length x.2) (r:=fun x=>JP 0 56 4 (Jm rs).length ((Jm rs).flatMap jZ) x) (H:=fun _=>True) J J J (lb J) (fun w1 hs=>qS (by rw [←eb1];exact Va gA _ gc (J4 rs) w1 (Vy (hs.all 3 _ J).1).rings (by omega))) ?_
       rintro⟨eA,ec⟩ -
       refine n9 ?_;refine Q5 (u9 J) ?_;refine Jh (i:=3) J (by decide) (by kernel_rfl) J ?_;refine jP kY (v:=fun x:Option Addr×Nat=> .slice x.1 (Jm ss).length x.2) (r:=fun x=>JP 0 56 4 (Jm ss).length ((Jm ss).flatMap jZ) x) (H:=fun _=>True) J J J (lb J) (fun w1 hs=>qS (by rw [←eb2];exact Va kA _ kc (J4 ss) w1 (Vy (hs.all 4 _ J).1).rings (by omega))) ?_
       rintro⟨fA,fc⟩ -
       refine n9 ?_;refine Q5 (u9 J) ?_;refine Jh (i:=4) J (by decide) (by kernel_rfl) J ?_;refine Jp J J (VO J J) J (lb J) (fun b4=> ?_);refine n9 ?_;refine jJ (u9 J) ?_;refine Jh (i:=5) J (by decide) (by kernel_rfl) J ?_;refine jP kN (v:=fun x:Option Addr×Nat=> .slice x.1 (Fm rs ss).length x.2) (r:=fun x=>JP 0 56 4 (Fm rs ss).length ((Fm rs ss).flatMap jZ) x) (H:=fun _=>True) J J J (lb J) (fun w1 hs=>qS (Tm (hs.cel (k:=7) J) (x1:= (eA,ec)) (x2:= (fA,fc)) (E1:=Jm rs) (E2:=Jm ss) (hs.all 5 _ J).1 (hs.all 6 _ J).1 (by omega))) ?_
       rintro⟨lA_,lc⟩ -
       refine n9 ?_;refine jJ (u9 J) ?_;refine dK 6 ?_;refine Jj (by kernel_rfl) ?_;refine S1 ?_
       exact JZ h_6 ((lA_,lc)) (trivial) ⟨J,sz⟩ (fun _ h=>h.picks [0,1,2,3,4,8] (by decide))
      ·rintro⟨lA_,lc⟩ -
       refine v9 ?_;refine ji (by first | (dsimp only;done) | (dsimp only;rfl) | rfl) ?_;refine S7 ?_;refine cZ (fun c3=> ?_) (fun c3=> ?_)
       ·refine S2 ?_;refine a9 (JV J J (qf)) ?_;refine S6 ?_;refine J6 J (J3 (k:=2) J jn J J) (.tmp J) ?_
        intro w' hs
        have hno:=Tr (rs:=rs) (ss:=ss) (show¬(Fm rs ss).length≤400 by omega)
        obtain ⟨e3,e4⟩ :=HK (how:=how) hno
        exact⟨none,0,by rw [e3,e4];rfl,by rw [e3];exact OwnG.nil none,hs.fin⟩
       ·have h4: (Fm rs ss).length≤400:= (by omega)
        have hC:CmOk rs ss:=⟨hr,hr2,h4⟩
        have hk:=hC.hot1
        have hk2:=hC.hot2
        refine S6 ?_;refine jP xI (v:=fun x:Option Addr×Nat=> .slice x.1 (Yv rs ss).length x.2) (r:=fun x=>JP 0 54 2 (Yv rs ss).length ((Yv rs ss).flatMap j7) x) (H:=fun _=>True) J J J (lb J) (fun w1 hs=>qS (Oe lA_ _ lc (Fm rs ss) w1 (we (k:=5) (x:= (lA_,lc)) (ls:=Fm rs ss) J J w1 hs) hC.legs h4 (wC (hs.all 5 _ J).1))) ?_
        rintro⟨pA,pc⟩ -
        refine N7 ?_;refine WZ (k:=3) (X:= (Option Addr×Nat)×Nat×Nat) (v:=fun x=> .tuple #[Ju x.1.1 (Yu rs ss).length x.1.2, .int .i64 (Nq (Yv rs ss) (J4 rs)), .int .i64 (if W6 rs ss=true then 0 else 5)]) (r':=fun x=>JD (Yu rs ss).length (Yu rs ss) x.2.1 x.2.2 x.1.1) uM J J J (by decide) J (fun w1 hs=>C4 (A:=gA) (c:=gc) (V:=fun A' c'=> .tuple #[Ju A' (Yu rs ss).length c', .int .i64 (Nq (Yv rs ss) (J4 rs)), .int .i64 (if W6 rs ss=true then 0 else 5)]) (hs.all 3 _ J).1 J (Y2 gA _ gc (J4 rs) pA (Yv rs ss).length pc (Yv rs ss) w1 (Vy (hs.all 3 _ J).1).rings hk.reg (vx (hs.all 6 _ J).1 J) hk.len (wC (hs.all 6 _ J).1) hk.ok hk.asc hk.nd hk.bare)) ?_
        rintro⟨⟨hA,hc⟩,hlo,hhi⟩
        refine N9 ?_;refine KZ (X:=List jS×(Option Addr×Nat)×Nat×Nat) (fun x=> (W6 rs ss&&Uu rs ss) =true→x.1=yo rs ss) (fun x=> [(11, .int .i64 (if(W6 rs ss&&Uu rs ss) =true then 0 else 5))]) (kK [2,3,4,6,7]) (fun x=> [.cel b1 29 [.slice hA (Yu rs ss).length hc], .cel b2 29 [.slice x.2.1.1 x.1.length x.2.1.2], .cel b3 29 [.slice none 0 0],JD (Yu rs ss).length (Yu rs ss) hlo hhi hA,JD x.1.length x.1 x.2.2.1 x.2.2.2 x.2.1.1]) (fun L h_t53=> ?_) ?_
        ·refine S5 ?_;refine cZ (fun c4=> ?_) (fun c4=> ?_)
         ·have hOa:W6 rs ss=true:= (by cases k:W6 rs ss<;>simp_all)
          refine S4 ?_;refine WZ (k:=4) (X:= (Option Addr×Nat)×Nat×Nat) (v:=fun x=> .tuple #[Ju x.1.1 (yo rs ss).length x.1.2, .int .i64 (Nq (Yv rs ss) (J4 ss)), .int .i64 (if Uu rs ss=true then 0 else 5)]) (r':=fun x=>JD (yo rs ss).length (yo rs ss) x.2.1 x.2.2 x.1.1) uM J J J (by decide) J (fun w1 hs=>C4 (A:=kA) (c:=kc) (V:=fun A' c'=> .tuple #[Ju A' (yo rs ss).length c', .int .i64 (Nq (Yv rs ss) (J4 ss)), .int .i64 (if Uu rs ss=true then 0 else 5)]) (hs.all 4 _ J).1 J (Y2 kA _ kc (J4 ss) pA (Yv rs ss).length pc (Yv rs ss) w1 (Vy (hs.all 4 _ J).1).rings hk2.reg (vx (hs.all 6 _ J).1 J) hk2.len (wC (hs.all 6 _ J).1) hk2.ok hk2.asc hk2.nd hk2.bare)) ?_
          rintro⟨⟨mA,mc⟩,mlo,mhi⟩
          refine N8 ?_
          exact JZ h_t53 ((yo rs ss,(mA,mc),mlo,mhi)) (fun _=>rfl) ⟨by rw [hOa,jfe];rfl,sz⟩ (fun _ h=> (h.picks [0,1,2,3,4] (by decide)).upto ⟨J,sz⟩)
         ·have hOa:W6 rs ss=false:= (by cases k:W6 rs ss<;>simp_all)
          refine S2 ?_
          exact JZ h_t53 ((J4 ss,(kA,kc),klo,khi)) (fun h=>by rw [hOa] at h;cases h) ⟨by rw [hOa];rfl,sz⟩ (fun _ h=> (h.picks [0,1,2,3,4] (by decide)).upto ⟨rfl,sz⟩)
        ·rintro⟨bs,⟨mA,mc⟩,mlo,mhi⟩ hbs
         refine v9 ?_;refine ji (by first | (dsimp only;done) | (dsimp only;rfl) | rfl) ?_;refine S6 ?_;refine cZ (fun c5=> ?_) (fun c5=> ?_)
         ·refine S2 ?_;refine a9 (JV J J (qf)) ?_;refine S7 ?_;refine J6 J (J3 (k:=2) J jn J J) (.tmp J) ?_
          intro w' hs
          have hO: (W6 rs ss&&Uu rs ss) =false:= (by cases k: (W6 rs ss&&Uu rs ss) <;>simp_all)
          obtain ⟨e3,e4⟩ :=HK (how:=how) (C1 hO)
          exact⟨none,0,by rw [e3,e4,hO];rfl,by rw [e3];exact OwnG.nil none,hs.fin⟩
         ·have hO: (W6 rs ss&&Uu rs ss) =true:= (by cases k: (W6 rs ss&&Uu rs ss) <;>simp_all)
          obtain rfl:bs=yo rs ss:=hbs hO
          have hO1:W6 rs ss=true:= (by rw [jeF] at hO;exact hO.1)
          have hO2:Uu rs ss=true:= (by rw [jeF] at hO;exact hO.2)
          have hg1:= (GW hk hO1).1
          have hg2:= (GW hk2 hO2).1
          have hs1:= (smallR.of hg1).total
          have hs2:= (smallR.of hg2).total
          have hTw:=hC.two hO1 hO2
          have hPr:=hC.pair hO1 hO2
          have hoT:=hC.okT hO1 hO2 how
          obtain ⟨e3,e4⟩ :=CN (how:=how) (C0 h4 hO)
          rw [e3,e4]
          refine S2 ?_;refine KZ (X:= ((Option Addr×Nat)×Nat×Nat)×Nat) (fun x=>True) (fun x=> [(12, .pointer (some ⟨x.2,0,none⟩))]) (kK [6,7]) (fun x=> [.cel b3 29 [.slice none 0 0],JD (vJ rs ss how).length (VD (vJ rs ss how)) x.1.2.1 x.1.2.2 x.1.1.1, .cel x.2 29 [.slice x.1.1.1 (vJ rs ss how).length x.1.1.2]]) (fun L h_15=> ?_) ?_
          ·refine S1 ?_;refine Jw 10 ?_;refine dK 0 ?_;refine dK 2 ?_;refine dK 4 ?_;refine Q4 (i:=1) (j:=8) J J (by decide) (by decide) (by kernel_rfl) J J ?_ ?_
           ·refine jP kY (v:=fun x:Option Addr×Nat=> .slice x.1 (Jm (Yu rs ss)).length x.2) (r:=fun x=>JP 0 56 4 (Jm (Yu rs ss)).length ((Jm (Yu rs ss)).flatMap jZ) x) (H:=fun _=>True) J J J (lb J) (fun w1 hs=>qS (Va hA _ hc (Yu rs ss) w1 (Vy (hs.all 3 _ J).1).rings (jf8 hs1 (by decide)))) ?_
            rintro⟨eA,ec⟩ -
            refine n9 ?_;refine jJ (u9 J) ?_;refine Q4 (i:=3) (j:=8) J J (by decide) (by decide) (by kernel_rfl) J J ?_ ?_
            ·refine jP kY (v:=fun x:Option Addr×Nat=> .slice x.1 (Jm (yo rs ss)).length x.2) (r:=fun x=>JP 0 56 4 (Jm (yo rs ss)).length ((Jm (yo rs ss)).flatMap jZ) x) (H:=fun _=>True) J J J (lb J) (fun w1 hs=>qS (Va mA _ mc (yo rs ss) w1 (Vy (hs.all 4 _ J).1).rings (jf8 hs2 (by decide)))) ?_
             rintro⟨fA,fc⟩ -
             refine n9 ?_;refine jJ (u9 J) ?_;refine Q4 (i:=5) (j:=8) J J (by decide) (by decide) (by kernel_rfl) J J ?_ ?_
             ·refine jP K1 (v:=fun x:Option Addr×Nat=> .slice x.1 (Kh rs ss how).length x.2) (r:=fun x=>JP 0 56 4 (Kh rs ss how).length ((Kh rs ss how).flatMap jZ) x) (H:=fun _=>True) J J J (lb J) (fun w1 hs=>qS (VZ (eA,ec) (fA,fc) (Jm (Yu rs ss)) (Jm (yo rs ss)) how w1 (hs.all 5 _ J).1 (hs.all 6 _ J).1 hTw)) ?_
              rintro⟨bA,bc⟩ -
              refine n9 ?_;refine jJ (u9 J) ?_;refine Q4 (i:=6) (j:=8) J J (by decide) (by decide) (by kernel_rfl) J J ?_ ?_
              ·refine jP Ks (X:= (Option Addr×Nat)×Nat×Nat) (v:=fun x=>Ju x.1.1 (vJ rs ss how).length x.1.2) (r:=fun x=>HE x.2.1 x.2.2 (vJ rs ss how).length (vJ rs ss how) x.1.1) (H:=fun _=>True) J J J (lb J) (fun w1 hs=>Ms (V:=fun A' c'=>Ju A' (vJ rs ss how).length c') (Vs bA _ bc (Kh rs ss how) w1 (we (k:=7) (x:= (bA,bc)) (ls:=Kh rs ss how) J J w1 hs) (Zg hTw) (Lq hTw hPr))) ?_
               rintro⟨⟨tA,tc⟩,tlo,thi⟩ -
               refine n9 ?_;refine jJ (u9 J) ?_;refine Q4 (i:=7) (j:=8) J J (by decide) (by decide) (by kernel_rfl) J J ?_ ?_
               ·refine jP QL (X:= (Option Addr×Nat)×Nat×Nat) (v:=fun x=>Ju x.1.1 (vJ rs ss how).length x.1.2) (r:=fun x=>JD (vJ rs ss how).length (VD (vJ rs ss how)) x.2.1 x.2.2 x.1.1) (H:=fun _=>True) J J J (lb J) (fun w1 hs=>Qm (V:=fun A' c'=>Ju A' (vJ rs ss how).length c') (Kv tA _ tc (vJ rs ss how) w1 (PG (hs.all 8 _ J).1) hoT)) ?_
                rintro⟨⟨oA,oc⟩,olo,ohi⟩ -
                refine n9 ?_;refine jJ (u9 J) ?_;refine Jh (i:=8) J (by decide) (by kernel_rfl) J ?_;refine aL (fun b5=> ?_);refine n9 ?_;refine jJ (u9 J) ?_;refine Jh (i:=9) J (by decide) (by kernel_rfl) J ?_;refine j9 10 jk.szx ?_;refine n9 ?_;refine jJ (u9 J) ?_;refine Jj (by kernel_rfl) ?_;refine S1 ?_
                exact JZ h_15 ((((oA,oc),olo,ohi),b5)) (trivial) ⟨J,sz⟩ (fun _ h=>h.picks [2,9,10] (by decide))
               ·refine aL (fun b6=> ?_);refine n9 ?_;refine jJ (u9 J) ?_;refine Jh (i:=7) J (by decide) (by kernel_rfl) J ?_;refine jP QL (X:= (Option Addr×Nat)×Nat×Nat) (v:=fun x=>Ju x.1.1 (vJ rs ss how).length x.1.2) (r:=fun x=>JD (vJ rs ss how).length (VD (vJ rs ss how)) x.2.1 x.2.2 x.1.1) (H:=fun _=>True) J J J (lb J) (fun w1 hs=>Qm (V:=fun A' c'=>Ju A' (vJ rs ss how).length c') (Kv tA _ tc (vJ rs ss how) w1 (PG (hs.all 8 _ J).1) hoT)) ?_
                rintro⟨⟨oA,oc⟩,olo,ohi⟩ -
                refine n9 ?_;refine jJ (u9 J) ?_;refine Jh (i:=9) J (by decide) (by kernel_rfl) J ?_;refine S1 ?_;refine jJ (u9 J) ?_;refine Jj (by kernel_rfl) ?_;refine S1 ?_
                exact JZ h_15 ((((oA,oc),olo,ohi),b6)) (trivial) ⟨J,sz⟩ (fun _ h=>h.picks [2,10,9] (by decide))
              ·refine aL (fun b7=> ?_);refine n9 ?_;refine jJ (u9 J) ?_;refine Jh (i:=6) J (by decide) (by kernel_rfl) J ?_;refine jP Ks (X:= (Option Addr×Nat)×Nat×Nat) (v:=fun x=>Ju x.1.1 (vJ rs ss how).length x.1.2) (r:=fun x=>HE x.2.1 x.2.2 (vJ rs ss how).length (vJ rs ss how) x.1.1) (H:=fun _=>True) J J J (lb J) (fun w1 hs=>Ms (V:=fun A' c'=>Ju A' (vJ rs ss how).length c') (Vs bA _ bc (Kh rs ss how) w1 (we (k:=7) (x:= (bA,bc)) (ls:=Kh rs ss how) J J w1 hs) (Zg hTw) (Lq hTw hPr))) ?_
               rintro⟨⟨tA,tc⟩,tlo,thi⟩ -
               refine n9 ?_;refine jJ (u9 J) ?_;refine Jh (i:=7) J (by decide) (by kernel_rfl) J ?_;refine jP QL (X:= (Option Addr×Nat)×Nat×Nat) (v:=fun x=>Ju x.1.1 (vJ rs ss how).length x.1.2) (r:=fun x=>JD (vJ rs ss how).length (VD (vJ rs ss how)) x.2.1 x.2.2 x.1.1) (H:=fun _=>True) J J J (lb J) (fun w1 hs=>Qm (V:=fun A' c'=>Ju A' (vJ rs ss how).length c') (Kv tA _ tc (vJ rs ss how) w1 (PG (hs.all 9 _ J).1) hoT)) ?_
               rintro⟨⟨oA,oc⟩,olo,ohi⟩ -
               refine n9 ?_;refine jJ (u9 J) ?_;refine Jh (i:=9) J (by decide) (by kernel_rfl) J ?_;refine S1 ?_;refine jJ (u9 J) ?_;refine Jj (by kernel_rfl) ?_;refine S1 ?_
               exact JZ h_15 ((((oA,oc),olo,ohi),b7)) (trivial) ⟨J,sz⟩ (fun _ h=>h.picks [2,10,8] (by decide))
             ·refine aL (fun b8=> ?_);refine n9 ?_;refine jJ (u9 J) ?_;refine Jh (i:=5) J (by decide) (by kernel_rfl) J ?_;refine jP K1 (v:=fun x:Option Addr×Nat=> .slice x.1 (Kh rs ss how).length x.2) (r:=fun x=>JP 0 56 4 (Kh rs ss how).length ((Kh rs ss how).flatMap jZ) x) (H:=fun _=>True) J J J (lb J) (fun w1 hs=>qS (VZ (eA,ec) (fA,fc) (Jm (Yu rs ss)) (Jm (yo rs ss)) how w1 (hs.all 5 _ J).1 (hs.all 6 _ J).1 hTw)) ?_
              rintro⟨bA,bc⟩ -
              refine n9 ?_;refine jJ (u9 J) ?_;refine Jh (i:=6) J (by decide) (by kernel_rfl) J ?_;refine jP Ks (X:= (Option Addr×Nat)×Nat×Nat) (v:=fun x=>Ju x.1.1 (vJ rs ss how).length x.1.2) (r:=fun x=>HE x.2.1 x.2.2 (vJ rs ss how).length (vJ rs ss how) x.1.1) (H:=fun _=>True) J J J (lb J) (fun w1 hs=>Ms (V:=fun A' c'=>Ju A' (vJ rs ss how).length c') (Vs bA _ bc (Kh rs ss how) w1 (we (k:=8) (x:= (bA,bc)) (ls:=Kh rs ss how) J J w1 hs) (Zg hTw) (Lq hTw hPr))) ?_
              rintro⟨⟨tA,tc⟩,tlo,thi⟩ -
              refine n9 ?_;refine jJ (u9 J) ?_;refine Jh (i:=7) J (by decide) (by kernel_rfl) J ?_;refine jP QL (X:= (Option Addr×Nat)×Nat×Nat) (v:=fun x=>Ju x.1.1 (vJ rs ss how).length x.1.2) (r:=fun x=>JD (vJ rs ss how).length (VD (vJ rs ss how)) x.2.1 x.2.2 x.1.1) (H:=fun _=>True) J J J (lb J) (fun w1 hs=>Qm (V:=fun A' c'=>Ju A' (vJ rs ss how).length c') (Kv tA _ tc (vJ rs ss how) w1 (PG (hs.all 9 _ J).1) hoT)) ?_
              rintro⟨⟨oA,oc⟩,olo,ohi⟩ -
              refine n9 ?_;refine jJ (u9 J) ?_;refine Jh (i:=9) J (by decide) (by kernel_rfl) J ?_;refine S1 ?_;refine jJ (u9 J) ?_;refine Jj (by kernel_rfl) ?_;refine S1 ?_
              exact JZ h_15 ((((oA,oc),olo,ohi),b8)) (trivial) ⟨J,sz⟩ (fun _ h=>h.picks [2,10,7] (by decide))
            ·refine aL (fun b9=> ?_);refine n9 ?_;refine jJ (u9 J) ?_;refine Jh (i:=3) J (by decide) (by kernel_rfl) J ?_;refine jP kY (v:=fun x:Option Addr×Nat=> .slice x.1 (Jm (yo rs ss)).length x.2) (r:=fun x=>JP 0 56 4 (Jm (yo rs ss)).length ((Jm (yo rs ss)).flatMap jZ) x) (H:=fun _=>True) J J J (lb J) (fun w1 hs=>qS (Va mA _ mc (yo rs ss) w1 (Vy (hs.all 4 _ J).1).rings (jf8 hs2 (by decide)))) ?_
             rintro⟨fA,fc⟩ -
             refine n9 ?_;refine jJ (u9 J) ?_;refine Jh (i:=5) J (by decide) (by kernel_rfl) J ?_;refine jP K1 (v:=fun x:Option Addr×Nat=> .slice x.1 (Kh rs ss how).length x.2) (r:=fun x=>JP 0 56 4 (Kh rs ss how).length ((Kh rs ss how).flatMap jZ) x) (H:=fun _=>True) J J J (lb J) (fun w1 hs=>qS (VZ (eA,ec) (fA,fc) (Jm (Yu rs ss)) (Jm (yo rs ss)) how w1 (hs.all 5 _ J).1 (hs.all 7 _ J).1 hTw)) ?_
             rintro⟨bA,bc⟩ -
             refine n9 ?_;refine jJ (u9 J) ?_;refine Jh (i:=6) J (by decide) (by kernel_rfl) J ?_;refine jP Ks (X:= (Option Addr×Nat)×Nat×Nat) (v:=fun x=>Ju x.1.1 (vJ rs ss how).length x.1.2) (r:=fun x=>HE x.2.1 x.2.2 (vJ rs ss how).length (vJ rs ss how) x.1.1) (H:=fun _=>True) J J J (lb J) (fun w1 hs=>Ms (V:=fun A' c'=>Ju A' (vJ rs ss how).length c') (Vs bA _ bc (Kh rs ss how) w1 (we (k:=8) (x:= (bA,bc)) (ls:=Kh rs ss how) J J w1 hs) (Zg hTw) (Lq hTw hPr))) ?_
             rintro⟨⟨tA,tc⟩,tlo,thi⟩ -
             refine n9 ?_;refine jJ (u9 J) ?_;refine Jh (i:=7) J (by decide) (by kernel_rfl) J ?_;refine jP QL (X:= (Option Addr×Nat)×Nat×Nat) (v:=fun x=>Ju x.1.1 (vJ rs ss how).length x.1.2) (r:=fun x=>JD (vJ rs ss how).length (VD (vJ rs ss how)) x.2.1 x.2.2 x.1.1) (H:=fun _=>True) J J J (lb J) (fun w1 hs=>Qm (V:=fun A' c'=>Ju A' (vJ rs ss how).length c') (Kv tA _ tc (vJ rs ss how) w1 (PG (hs.all 9 _ J).1) hoT)) ?_
             rintro⟨⟨oA,oc⟩,olo,ohi⟩ -
             refine n9 ?_;refine jJ (u9 J) ?_;refine Jh (i:=9) J (by decide) (by kernel_rfl) J ?_;refine S1 ?_;refine jJ (u9 J) ?_;refine Jj (by kernel_rfl) ?_;refine S1 ?_
             exact JZ h_15 ((((oA,oc),olo,ohi),b9)) (trivial) ⟨J,sz⟩ (fun _ h=>h.picks [2,10,6] (by decide))
           ·refine aL (fun b10=> ?_);refine n9 ?_;refine jJ (u9 J) ?_;refine Jh (i:=1) J (by decide) (by kernel_rfl) J ?_;refine jP kY (v:=fun x:Option Addr×Nat=> .slice x.1 (Jm (Yu rs ss)).length x.2) (r:=fun x=>JP 0 56 4 (Jm (Yu rs ss)).length ((Jm (Yu rs ss)).flatMap jZ) x) (H:=fun _=>True) J J J (lb J) (fun w1 hs=>qS (Va hA _ hc (Yu rs ss) w1 (Vy (hs.all 3 _ J).1).rings (jf8 hs1 (by decide)))) ?_
            rintro⟨eA,ec⟩ -
            refine n9 ?_;refine jJ (u9 J) ?_;refine Jh (i:=3) J (by decide) (by kernel_rfl) J ?_;refine jP kY (v:=fun x:Option Addr×Nat=> .slice x.1 (Jm (yo rs ss)).length x.2) (r:=fun x=>JP 0 56 4 (Jm (yo rs ss)).length ((Jm (yo rs ss)).flatMap jZ) x) (H:=fun _=>True) J J J (lb J) (fun w1 hs=>qS (Va mA _ mc (yo rs ss) w1 (Vy (hs.all 4 _ J).1).rings (jf8 hs2 (by decide)))) ?_
            rintro⟨fA,fc⟩ -
            refine n9 ?_;refine jJ (u9 J) ?_;refine Jh (i:=5) J (by decide) (by kernel_rfl) J ?_;refine jP K1 (v:=fun x:Option Addr×Nat=> .slice x.1 (Kh rs ss how).length x.2) (r:=fun x=>JP 0 56 4 (Kh rs ss how).length ((Kh rs ss how).flatMap jZ) x) (H:=fun _=>True) J J J (lb J) (fun w1 hs=>qS (VZ (eA,ec) (fA,fc) (Jm (Yu rs ss)) (Jm (yo rs ss)) how w1 (hs.all 6 _ J).1 (hs.all 7 _ J).1 hTw)) ?_
            rintro⟨bA,bc⟩ -
            refine n9 ?_;refine jJ (u9 J) ?_;refine Jh (i:=6) J (by decide) (by kernel_rfl) J ?_;refine jP Ks (X:= (Option Addr×Nat)×Nat×Nat) (v:=fun x=>Ju x.1.1 (vJ rs ss how).length x.1.2) (r:=fun x=>HE x.2.1 x.2.2 (vJ rs ss how).length (vJ rs ss how) x.1.1) (H:=fun _=>True) J J J (lb J) (fun w1 hs=>Ms (V:=fun A' c'=>Ju A' (vJ rs ss how).length c') (Vs bA _ bc (Kh rs ss how) w1 (we (k:=8) (x:= (bA,bc)) (ls:=Kh rs ss how) J J w1 hs) (Zg hTw) (Lq hTw hPr))) ?_
            rintro⟨⟨tA,tc⟩,tlo,thi⟩ -
            refine n9 ?_;refine jJ (u9 J) ?_;refine Jh (i:=7) J (by decide) (by kernel_rfl) J ?_;refine jP QL (X:= (Option Addr×Nat)×Nat×Nat) (v:=fun x=>Ju x.1.1 (vJ rs ss how).length x.1.2) (r:=fun x=>JD (vJ rs ss how).length (VD (vJ rs ss how)) x.2.1 x.2.2 x.1.1) (H:=fun _=>True) J J J (lb J) (fun w1 hs=>Qm (V:=fun A' c'=>Ju A' (vJ rs ss how).length c') (Kv tA _ tc (vJ rs ss how) w1 (PG (hs.all 9 _ J).1) hoT)) ?_
            rintro⟨⟨oA,oc⟩,olo,ohi⟩ -
            refine n9 ?_;refine jJ (u9 J) ?_;refine Jh (i:=9) J (by decide) (by kernel_rfl) J ?_;refine S1 ?_;refine jJ (u9 J) ?_;refine Jj (by kernel_rfl) ?_;refine S1 ?_
            exact JZ h_15 ((((oA,oc),olo,ohi),b10)) (trivial) ⟨J,sz⟩ (fun _ h=>h.picks [2,10,5] (by decide))
          ·rintro⟨⟨⟨oA,oc⟩,olo,ohi⟩,bo⟩ -
           refine v9 ?_;refine ji (by first | (dsimp only;done) | (dsimp only;rfl) | rfl) ?_;refine S4 ?_;refine a9 (jH ka J J (fun w1 hs=>KG oA _ oc (VD (vJ rs ss how)) w1 (Vy (hs.all 1 _ J).1).rings (by have:=hoT.1;omega))) ?_;refine S2 ?_;refine cZ (fun c6=> ?_) (fun c6=> ?_)
           ·refine S2 ?_;refine a9 (JV J J (qf)) ?_;refine S6 ?_;refine J6 J (J3 (k:=0) J jn J J) (.tmp J) ?_
            intro w' hs
            obtain ⟨f1,f2⟩ :=jc6 c6
            exact⟨none,0,by rw [f1,f2];rfl,by rw [f1];exact OwnG.nil none,hs.fin⟩
           ·refine S10 ?_;refine J6 J (J3 (k:=0) J jn J J) (.tmp J) ?_
            intro w' hs
            obtain ⟨f1,f2⟩ :=jbp c6
            have hg:=hs.all 1 _ rfl
            have ho:=wn hg.1 (fun b hb=> (hg.2.1 b hb).elim id (fun h=>by cases h))
            exact⟨oA,oc,by rw [f1,f2,UT],by rw [f1,UT];exact ho,hs.fin⟩
end Go.Proofs.YtkagkgjjfdkoaaaGreat
