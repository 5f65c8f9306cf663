import Derived.Test.YtbahojdbmmjkcaaGreatPBrd2
set_option linter.unusedVariables false
set_option linter.unusedSimpArgs false
namespace Go.Proofs.YtbahojdbmmjkcaaGreat
open Go Go.RowKit
variable {A:Option Addr} {V:Option Addr→Nat→Value} {args:Array Value} {how:Int} {rs ss:List jK}
set_option maxRecDepth 100000
set_option maxHeartbeats 4000000
theorem MJ {P:Program} {f:FuncId} {w1:World} {n:Nat} (h:Calls P f args w1 fun e w'=>∃A c,e= .returned (V A c)∧OwnG w1.heap.size w'.heap.size w' A n rs∧(HS w1.heap.size w'.heap.size n rs A).P w'∧Over w1 w') :
  Calls P f args w1 fun e w'=>∃x: (Option Addr×Nat)×Nat×Nat,e= .returned (V x.1.1 x.1.2)∧Over w1 w'∧(HS x.2.1 x.2.2 n rs x.1.1).P w'∧(∀b,(HS x.2.1 x.2.2 n rs x.1.1).F b→w1.heap.size≤b)∧(HS x.2.1 x.2.2 n rs x.1.1).B=0∧True:=by
 refine h.mono ?_
 rintro e w' ⟨A,c,rfl,ho,hc,hO⟩
 exact⟨((A,c),w1.heap.size,w'.heap.size),rfl,hO,hc,fun b hb=>hb.1,sz⟩
theorem CQ {lo hi n:Nat} {w:World} (h: (HS lo hi n rs A).P w) :RingsC w A n rs:=h.2 w h.1 fun _ _ _=>rfl
theorem ER (h: (!XK rs ss) =true) :UV rs ss how= []∧Bd rs ss how=1:=by
 rw [jhe] at h
 simp [UV,Bd,h]
theorem jeI (h:XK rs ss=true) (h2: (!LV how) =true) :UV rs ss how= []∧Bd rs ss how=2:=by
 rw [jhe] at h2
 simp [UV,Bd,h,h2]
theorem jee (h:XK rs ss=true) (h2:LV how=true) :UV rs ss how=Sq rs ss how∧Bd rs ss how=coC rs ss how:=by
 simp [UV,Bd,h,h2]
theorem HY (h:Zb rs ss=false) :Sq rs ss how= []∧coC rs ss how=5:=by simp [Sq,coC,h]
theorem EY (h:Zb rs ss=true) :Sq rs ss how=Hu (wX (vx rs ss how))∧coC rs ss how=LT (wX (vx rs ss how)) :=by simp [Sq,coC,h]
theorem jeP (h:JW rs=false) :Hu rs= []∧LT rs=5:=by simp [Hu,LT,h]
theorem jcW (h:JW rs=true) :Hu rs=rs∧LT rs=0:=by simp [Hu,LT,h]
theorem Nn (h:¬(Jx rs++Jx ss).length≤400) :Zb rs ss=false:=by simp only [Zb,decide_eq_false h,jhd]
theorem jag (h: (W6 rs ss&&UI rs ss) =false) :Zb rs ss=false:=by rw [Zb,h,Bool.and_false]
theorem jaf (hl: (Jx rs++Jx ss).length≤400) (h: (W6 rs ss&&UI rs ss) =true) :Zb rs ss=true:=by rw [Zb,h,Bool.and_true,decide_eq_true hl]
theorem Zq (A:Option Addr) (n c:Nat) (rs:List jK) (A2:Option Addr) (n2 c2_:Nat) (ss:List jK) (how:Int) (w:World) (h:Rings w A n rs) (hm: (n:Int)≤9223372036854775807) (h2:Rings w A2 n2 ss) (hm2: (n2:Int)≤9223372036854775807) :
  Calls Tryz.prog 14 #[qK A n c,qK A2 n2 c2_, .int .i64 how] w fun e w'=>∃A' c',e= .returned (.tuple #[qK A' (UV rs ss how).length c', .int .i64 (Bd rs ss how)])∧OwnG w.heap.size w'.heap.size w' A' (UV rs ss how).length (UV rs ss how)∧Over w w':=by
 have hl:=h.1
 have hl2:=h2.1
 refine jT (m:=78) (Tryz.func14) J J (lb J) ?_;refine S3 ?_;refine aX (fun b1=> ?_);refine N1 ?_;refine aX (fun b2=> ?_);refine N1 ?_;refine aL (fun b3=> ?_);refine N3 ?_;refine qn [(20, .bool (!XK rs ss))] (kK [2,3,4,6,7]) (fun L h_1=> ?_) ?_
 ·refine S2 ?_;refine a9 (jJ Ka J J (fun w1 hs=>VX A n c rs w1 (h.over hs.fin) hm)) ?_;refine S2 ?_;refine cV 16 (fun g1=> ?_) (fun g1=> ?_)
  ·refine S5 ?_
   exact Jr h_1 ⟨vb (by rw [XK,g1];rfl),sz⟩ (u9 J)
  ·refine S3 ?_;refine o9 (jJ Ka J J (fun w1 hs=>VX A2 n2 c2_ ss w1 (h2.over hs.fin) hm2)) ?_;refine S4 ?_
   exact Jr h_1 ⟨vb (by rw [XK,g1];rfl),sz⟩ (u9 J)
 ·refine v9 ?_;refine cZ (fun c1=> ?_) (fun c1=> ?_)
  ·refine S2 ?_;refine a9 (J0 J J (qq)) ?_;refine S6 ?_;refine qo J (qh (k:=2) J jI J J) (.tmp J) ?_
   intro w' hs
   obtain ⟨e1,e2⟩ :=ER (how:=how) (by simpa using c1)
   exact⟨none,0,by rw [e1,e2];rfl,by rw [e1];exact OwnG.nil none,hs.fin⟩
  ·have hin:XK rs ss=true:= (by simpa using c1)
   refine S3 ?_;refine qn [(27, .bool (!LV how))] (kK [2,3,4,6,7]) (fun L h_3=> ?_) ?_
   ·refine S4 ?_;refine cV 24 (fun g2=> ?_) (fun g2=> ?_)
    ·refine S4 ?_
     exact Jr h_3 ⟨vb (by rw [LV,decide_eq_false (show¬1≤how by omega)];rfl),sz⟩ (u9 J)
    ·refine S6 ?_
     exact Jr h_3 ⟨vb (by rw [LV,decide_eq_true (show 1≤how by omega),jg2,jhc];simp),sz⟩ (u9 J)
   ·refine v9 ?_;refine cZ (fun c2=> ?_) (fun c2=> ?_)
    ·refine S2 ?_;refine a9 (J0 J J (qq)) ?_;refine S6 ?_;refine qo J (qh (k:=2) J jI J J) (.tmp J) ?_
     intro w' hs
     obtain ⟨e1,e2⟩ :=jeI (how:=how) hin (by simpa using c2)
     exact⟨none,0,by rw [e1,e2];rfl,by rw [e1];exact OwnG.nil none,hs.fin⟩
    ·obtain ⟨e1,e2⟩ :=jee (how:=how) hin (by simpa using c2)
     rw [e1,e2]
     have hr:JW rs=true:= (by have:=hin;rw [XK,jgy] at this;exact this.1)
     have hr2:JW ss=true:= (by have:=hin;rw [XK,jgy] at this;exact this.2)
     have hb1:=yr hr
     have hb2:=yr hr2
     have ht1:= (smallR.of hb1).total
     have ht2:= (smallR.of hb2).total
     have eb1:=Vp hr
     have eb2:=Vp hr2
     have hE1:=Gj hr
     have hE2:=Gj hr2
     refine S2 ?_;refine Ug (X:= ((Option Addr×Nat)×Nat×Nat)×((Option Addr×Nat)×Nat×Nat)) (fun x=>True) (fun x=> []) (kK [2,3,4,6,7]) (fun x=> [.cel b1 26 [.slice x.1.1.1 (qb rs).length x.1.1.2], .cel b2 26 [.slice x.2.1.1 (qb ss).length x.2.1.2], .cel b3 26 [.slice none 0 0],Q6 (qb rs).length (qb rs) x.1.2.1 x.1.2.2 x.1.1.1,Q6 (qb ss).length (qb ss) x.2.2.1 x.2.2.2 x.2.1.1]) (fun L h_5=> ?_) ?_
     ·refine S1 ?_;refine JS 4 ?_;refine dK 0 ?_;refine dV 2 [3] ?_;refine J8 (i:=1) J Dc Kr J ?_;refine JR uf (X:= (Option Addr×Nat)×Nat×Nat) (v:=fun x=>qK x.1.1 (qb rs).length x.1.2) (r:=fun x=>Q6 (qb rs).length (qb rs) x.2.1 x.2.2 x.1.1) (H:=fun _=>True) J J J (lb J) (fun w1 hs=>K1 (y6 A n c rs w1 (h.over hs.fin) hr)) ?_
      rintro⟨⟨gA,gc⟩,glo,ghi⟩ -
      refine n9 ?_;refine WP (u9 J) ?_;refine J8 (i:=3) J Dc Kr J ?_;refine JR uf (X:= (Option Addr×Nat)×Nat×Nat) (v:=fun x=>qK x.1.1 (qb ss).length x.1.2) (r:=fun x=>Q6 (qb ss).length (qb ss) x.2.1 x.2.2 x.1.1) (H:=fun _=>True) J J J (lb J) (fun w1 hs=>K1 (y6 A2 n2 c2_ ss w1 (h2.over hs.fin) hr2)) ?_
      rintro⟨⟨kA,kc⟩,klo,khi⟩ -
      refine n9 ?_;refine WP (u9 J) ?_;refine KB J Kr J ?_;refine S1 ?_;refine QH 6 [1] ?_;refine J8 (i:=5) J Dc Kr J ?_;refine S1 ?_;refine JU (uw [1] J) ?_;refine JI Kr ?_;refine S1 ?_
      exact ky h_5 ((((gA,gc),glo,ghi),((kA,kc),klo,khi))) (trivial) ⟨J,sz⟩ (fun _ h=>h.picks [0,1,2,3,4] Dc)
     ·rintro⟨⟨⟨gA,gc⟩,glo,ghi⟩,⟨⟨kA,kc⟩,klo,khi⟩⟩ -
      refine v9 ?_;refine r9 ?_;refine Ug (X:=Option Addr×Nat) (fun x=>True) (fun x=> [(8, .slice x.1 (F6 rs ss).length x.2)]) (kK [2,3,4,6,7]) (fun x=> [.cel b1 26 [.slice gA (qb rs).length gc], .cel b2 26 [.slice kA (qb ss).length kc], .cel b3 26 [.slice none 0 0],Q6 (qb rs).length (qb rs) glo ghi gA,Q6 (qb ss).length (qb ss) klo khi kA,JQ 0 96 4 (F6 rs ss).length ((F6 rs ss).flatMap jU) x]) (fun L h_6=> ?_) ?_
      ·refine S1 ?_;refine JS 7 ?_;refine dK 0 ?_;refine dK 2 ?_;refine J8 (i:=1) J Dc Kr J ?_;refine JR kW (v:=fun x:Option Addr×Nat=> .slice x.1 (Jx rs).length x.2) (r:=fun x=>JQ 0 96 4 (Jx rs).length ((Jx rs).flatMap jU) x) (H:=fun _=>True) J J J (lb J) (fun w1 hs=>qJ (by rw [←eb1];exact vV gA _ gc (qb rs) w1 (WX (hs.all 3 _ J).1).rings Om)) ?_
       rintro⟨eA,ec⟩ -
       refine n9 ?_;refine WP (u9 J) ?_;refine J8 (i:=3) J Dc Kr J ?_;refine JR kW (v:=fun x:Option Addr×Nat=> .slice x.1 (Jx ss).length x.2) (r:=fun x=>JQ 0 96 4 (Jx ss).length ((Jx ss).flatMap jU) x) (H:=fun _=>True) J J J (lb J) (fun w1 hs=>qJ (by rw [←eb2];exact vV kA _ kc (qb ss) w1 (WX (hs.all 4 _ J).1).rings Om)) ?_
       rintro⟨fA,fc⟩ -
       refine n9 ?_;refine WP (u9 J) ?_;refine J8 (i:=4) J Dc Kr J ?_;refine Jw J J (VL J J) J (lb J) (fun b4=> ?_);refine n9 ?_;refine JU (u9 J) ?_;refine J8 (i:=5) J Dc Kr J ?_;refine JR kL (v:=fun x:Option Addr×Nat=> .slice x.1 (F6 rs ss).length x.2) (r:=fun x=>JQ 0 96 4 (F6 rs ss).length ((F6 rs ss).flatMap jU) x) (H:=fun _=>True) J J J (lb J) (fun w1 hs=>qJ (Nj (hs.cel (k:=7) J) (x1:= (eA,ec)) (x2:= (fA,fc)) (E1:=Jx rs) (E2:=Jx ss) (hs.all 5 _ J).1 (hs.all 6 _ J).1 Om)) ?_
       rintro⟨lA_,lc⟩ -
       refine n9 ?_;refine JU (u9 J) ?_;refine dK 6 ?_;refine JI Kr ?_;refine S1 ?_
       exact ky h_6 ((lA_,lc)) (trivial) ⟨J,sz⟩ (fun _ h=>h.picks [0,1,2,3,4,8] Dc)
      ·rintro⟨lA_,lc⟩ -
       refine v9 ?_;refine r9 ?_;refine S7 ?_;refine cZ (fun c3=> ?_) (fun c3=> ?_)
       ·refine S2 ?_;refine a9 (J0 J J (qq)) ?_;refine S6 ?_;refine qo J (qh (k:=2) J jI J J) (.tmp J) ?_
        intro w' hs
        have hno:=Nn (rs:=rs) (ss:=ss) (show¬(F6 rs ss).length≤400 by omega)
        obtain ⟨e3,e4⟩ :=HY (how:=how) hno
        exact⟨none,0,by rw [e3,e4];rfl,by rw [e3];exact OwnG.nil none,hs.fin⟩
       ·have h4: (F6 rs ss).length≤400:=Om
        have hC:CmOk rs ss:=⟨hr,hr2,h4⟩
        have hk:=hC.hot1
        have hk2:=hC.hot2
        refine S6 ?_;refine JR xQ (v:=fun x:Option Addr×Nat=> .slice x.1 (YM rs ss).length x.2) (r:=fun x=>JQ 0 28 2 (YM rs ss).length ((YM rs ss).flatMap Ju) x) (H:=fun _=>True) J J J (lb J) (fun w1 hs=>qJ (OD lA_ _ lc (F6 rs ss) w1 (QO (k:=5) (x:= (lA_,lc)) (ls:=F6 rs ss) J J w1 hs) hC.legs h4 (W8 (hs.all 5 _ J).1))) ?_
        rintro⟨pA,pc⟩ -
        refine N7 ?_;refine W2 (k:=3) (X:= (Option Addr×Nat)×Nat×Nat) (v:=fun x=> .tuple #[qK x.1.1 (YL rs ss).length x.1.2, .int .i64 (PI (YM rs ss) (qb rs)), .int .i64 (if W6 rs ss=true then 0 else 5)]) (r':=fun x=>Q6 (YL rs ss).length (YL rs ss) x.2.1 x.2.2 x.1.1) uS J J J Dc J (fun w1 hs=>jaj (A:=gA) (c:=gc) (V:=fun A' c'=> .tuple #[qK A' (YL rs ss).length c', .int .i64 (PI (YM rs ss) (qb rs)), .int .i64 (if W6 rs ss=true then 0 else 5)]) (hs.all 3 _ J).1 J (zl gA _ gc (qb rs) pA (YM rs ss).length pc (YM rs ss) w1 (WX (hs.all 3 _ J).1).rings hk.reg (WI (hs.all 6 _ J).1 J) hk.len (W8 (hs.all 6 _ J).1) hk.ok hk.asc hk.nd hk.bare)) ?_
        rintro⟨⟨hA,hc⟩,hlo,hhi⟩
        refine N9 ?_;refine Ug (X:=List jK×(Option Addr×Nat)×Nat×Nat) (fun x=> (W6 rs ss&&UI rs ss) =true→x.1=yz rs ss) (fun x=> [(11, .int .i64 (if(W6 rs ss&&UI rs ss) =true then 0 else 5))]) (kK [2,3,4,6,7]) (fun x=> [.cel b1 26 [.slice hA (YL rs ss).length hc], .cel b2 26 [.slice x.2.1.1 x.1.length x.2.1.2], .cel b3 26 [.slice none 0 0],Q6 (YL rs ss).length (YL rs ss) hlo hhi hA,Q6 x.1.length x.1 x.2.2.1 x.2.2.2 x.2.1.1]) (fun L h_t53=> ?_) ?_
        ·refine S5 ?_;refine cZ (fun c4=> ?_) (fun c4=> ?_)
         ·have hOa:W6 rs ss=true:= (by cases k:W6 rs ss<;>simp_all)
          refine S4 ?_;refine W2 (k:=4) (X:= (Option Addr×Nat)×Nat×Nat) (v:=fun x=> .tuple #[qK x.1.1 (yz rs ss).length x.1.2, .int .i64 (PI (YM rs ss) (qb ss)), .int .i64 (if UI rs ss=true then 0 else 5)]) (r':=fun x=>Q6 (yz rs ss).length (yz rs ss) x.2.1 x.2.2 x.1.1) uS J J J Dc J (fun w1 hs=>jaj (A:=kA) (c:=kc) (V:=fun A' c'=> .tuple #[qK A' (yz rs ss).length c', .int .i64 (PI (YM rs ss) (qb ss)), .int .i64 (if UI rs ss=true then 0 else 5)]) (hs.all 4 _ J).1 J (zl kA _ kc (qb ss) pA (YM rs ss).length pc (YM rs ss) w1 (WX (hs.all 4 _ J).1).rings hk2.reg (WI (hs.all 6 _ J).1 J) hk2.len (W8 (hs.all 6 _ J).1) hk2.ok hk2.asc hk2.nd hk2.bare)) ?_
          rintro⟨⟨mA,mc⟩,mlo,mhi⟩
          refine N8 ?_
          exact ky h_t53 ((yz rs ss,(mA,mc),mlo,mhi)) (fun _=>rfl) ⟨by rw [hOa,jg2];rfl,sz⟩ (fun _ h=> (h.picks [0,1,2,3,4] Dc).upto ⟨J,sz⟩)
         ·have hOa:W6 rs ss=false:= (by cases k:W6 rs ss<;>simp_all)
          refine S2 ?_
          exact ky h_t53 ((qb ss,(kA,kc),klo,khi)) (fun h=>by rw [hOa] at h;cases h) ⟨by rw [hOa];rfl,sz⟩ (fun _ h=> (h.picks [0,1,2,3,4] Dc).upto ⟨rfl,sz⟩)
        ·rintro⟨bs,⟨mA,mc⟩,mlo,mhi⟩ hbs
         refine v9 ?_;refine r9 ?_;refine S6 ?_;refine cZ (fun c5=> ?_) (fun c5=> ?_)
         ·refine S2 ?_;refine a9 (J0 J J (qq)) ?_;refine S7 ?_;refine qo J (qh (k:=2) J jI J J) (.tmp J) ?_
          intro w' hs
          have hO: (W6 rs ss&&UI rs ss) =false:= (by cases k: (W6 rs ss&&UI rs ss) <;>simp_all)
          obtain ⟨e3,e4⟩ :=HY (how:=how) (jag hO)
          exact⟨none,0,by rw [e3,e4,hO];rfl,by rw [e3];exact OwnG.nil none,hs.fin⟩
         ·have hO: (W6 rs ss&&UI rs ss) =true:= (by cases k: (W6 rs ss&&UI rs ss) <;>simp_all)
          obtain rfl:bs=yz rs ss:=hbs hO
          have hO1:W6 rs ss=true:= (by rw [jgy] at hO;exact hO.1)
          have hO2:UI rs ss=true:= (by rw [jgy] at hO;exact hO.2)
          have hg1:= (G3 hk hO1).1
          have hg2:= (G3 hk2 hO2).1
          have hs1:= (smallR.of hg1).total
          have hs2:= (smallR.of hg2).total
          have hTw:=hC.two hO1 hO2
          have hPr:=hC.pair hO1 hO2
          have hoT:=hC.okT hO1 hO2 how
          obtain ⟨e3,e4⟩ :=EY (how:=how) (jaf h4 hO)
          rw [e3,e4]
          refine S2 ?_;refine Ug (X:= ((Option Addr×Nat)×Nat×Nat)×Nat) (fun x=>True) (fun x=> [(12, .pointer (some ⟨x.2,0,none⟩))]) (kK [6,7]) (fun x=> [.cel b3 26 [.slice none 0 0],Q6 (vx rs ss how).length (wX (vx rs ss how)) x.1.2.1 x.1.2.2 x.1.1.1, .cel x.2 26 [.slice x.1.1.1 (vx rs ss how).length x.1.1.2]]) (fun L h_15=> ?_) ?_
          ·refine S1 ?_;refine JS 10 ?_;refine dK 0 ?_;refine dK 2 ?_;refine dK 4 ?_;refine LN (i:=1) (j:=8) J J Dc Dc Kr J J ?_ ?_
           ·refine JR kW (v:=fun x:Option Addr×Nat=> .slice x.1 (Jx (YL rs ss)).length x.2) (r:=fun x=>JQ 0 96 4 (Jx (YL rs ss)).length ((Jx (YL rs ss)).flatMap jU) x) (H:=fun _=>True) J J J (lb J) (fun w1 hs=>qJ (vV hA _ hc (YL rs ss) w1 (WX (hs.all 3 _ J).1).rings (jhA hs1 Dc))) ?_
            rintro⟨eA,ec⟩ -
            refine n9 ?_;refine JU (u9 J) ?_;refine LN (i:=3) (j:=8) J J Dc Dc Kr J J ?_ ?_
            ·refine JR kW (v:=fun x:Option Addr×Nat=> .slice x.1 (Jx (yz rs ss)).length x.2) (r:=fun x=>JQ 0 96 4 (Jx (yz rs ss)).length ((Jx (yz rs ss)).flatMap jU) x) (H:=fun _=>True) J J J (lb J) (fun w1 hs=>qJ (vV mA _ mc (yz rs ss) w1 (WX (hs.all 4 _ J).1).rings (jhA hs2 Dc))) ?_
             rintro⟨fA,fc⟩ -
             refine n9 ?_;refine JU (u9 J) ?_;refine LN (i:=5) (j:=8) J J Dc Dc Kr J J ?_ ?_
             ·refine JR KW (v:=fun x:Option Addr×Nat=> .slice x.1 (Kh rs ss how).length x.2) (r:=fun x=>JQ 0 96 4 (Kh rs ss how).length ((Kh rs ss how).flatMap jU) x) (H:=fun _=>True) J J J (lb J) (fun w1 hs=>qJ (VY (eA,ec) (fA,fc) (Jx (YL rs ss)) (Jx (yz rs ss)) how w1 (hs.all 5 _ J).1 (hs.all 6 _ J).1 hTw)) ?_
              rintro⟨bA,bc⟩ -
              refine n9 ?_;refine JU (u9 J) ?_;refine LN (i:=6) (j:=8) J J Dc Dc Kr J J ?_ ?_
              ·refine JR Ks (X:= (Option Addr×Nat)×Nat×Nat) (v:=fun x=>qK x.1.1 (vx rs ss how).length x.1.2) (r:=fun x=>HS x.2.1 x.2.2 (vx rs ss how).length (vx rs ss how) x.1.1) (H:=fun _=>True) J J J (lb J) (fun w1 hs=>MJ (V:=fun A' c'=>qK A' (vx rs ss how).length c') (Vj bA _ bc (Kh rs ss how) w1 (QO (k:=7) (x:= (bA,bc)) (ls:=Kh rs ss how) J J w1 hs) (Zu hTw) (LF hTw hPr))) ?_
               rintro⟨⟨tA,tc⟩,tlo,thi⟩ -
               refine n9 ?_;refine JU (u9 J) ?_;refine LN (i:=7) (j:=8) J J Dc Dc Kr J J ?_ ?_
               ·refine JR kq (X:= (Option Addr×Nat)×Nat×Nat) (v:=fun x=>qK x.1.1 (vx rs ss how).length x.1.2) (r:=fun x=>Q6 (vx rs ss how).length (wX (vx rs ss how)) x.2.1 x.2.2 x.1.1) (H:=fun _=>True) J J J (lb J) (fun w1 hs=>K1 (V:=fun A' c'=>qK A' (vx rs ss how).length c') (K8 tA _ tc (vx rs ss how) w1 (CQ (hs.all 8 _ J).1) hoT)) ?_
                rintro⟨⟨oA,oc⟩,olo,ohi⟩ -
                refine n9 ?_;refine JU (u9 J) ?_;refine J8 (i:=8) J Dc Kr J ?_;refine aL (fun b5=> ?_);refine n9 ?_;refine JU (u9 J) ?_;refine J8 (i:=9) J Dc Kr J ?_;refine j9 10 jD.szx ?_;refine n9 ?_;refine JU (u9 J) ?_;refine JI Kr ?_;refine S1 ?_
                exact ky h_15 ((((oA,oc),olo,ohi),b5)) (trivial) ⟨J,sz⟩ (fun _ h=>h.picks [2,9,10] Dc)
               ·refine aL (fun b6=> ?_);refine n9 ?_;refine JU (u9 J) ?_;refine J8 (i:=7) J Dc Kr J ?_;refine JR kq (X:= (Option Addr×Nat)×Nat×Nat) (v:=fun x=>qK x.1.1 (vx rs ss how).length x.1.2) (r:=fun x=>Q6 (vx rs ss how).length (wX (vx rs ss how)) x.2.1 x.2.2 x.1.1) (H:=fun _=>True) J J J (lb J) (fun w1 hs=>K1 (V:=fun A' c'=>qK A' (vx rs ss how).length c') (K8 tA _ tc (vx rs ss how) w1 (CQ (hs.all 8 _ J).1) hoT)) ?_
                rintro⟨⟨oA,oc⟩,olo,ohi⟩ -
                refine n9 ?_;refine JU (u9 J) ?_;refine J8 (i:=9) J Dc Kr J ?_;refine S1 ?_;refine JU (u9 J) ?_;refine JI Kr ?_;refine S1 ?_
                exact ky h_15 ((((oA,oc),olo,ohi),b6)) (trivial) ⟨J,sz⟩ (fun _ h=>h.picks [2,10,9] Dc)
              ·refine aL (fun b7=> ?_);refine n9 ?_;refine JU (u9 J) ?_;refine J8 (i:=6) J Dc Kr J ?_;refine JR Ks (X:= (Option Addr×Nat)×Nat×Nat) (v:=fun x=>qK x.1.1 (vx rs ss how).length x.1.2) (r:=fun x=>HS x.2.1 x.2.2 (vx rs ss how).length (vx rs ss how) x.1.1) (H:=fun _=>True) J J J (lb J) (fun w1 hs=>MJ (V:=fun A' c'=>qK A' (vx rs ss how).length c') (Vj bA _ bc (Kh rs ss how) w1 (QO (k:=7) (x:= (bA,bc)) (ls:=Kh rs ss how) J J w1 hs) (Zu hTw) (LF hTw hPr))) ?_
               rintro⟨⟨tA,tc⟩,tlo,thi⟩ -
               refine n9 ?_;refine JU (u9 J) ?_;refine J8 (i:=7) J Dc Kr J ?_;refine JR kq (X:= (Option Addr×Nat)×Nat×Nat) (v:=fun x=>qK x.1.1 (vx rs ss how).length x.1.2) (r:=fun x=>Q6 (vx rs ss how).length (wX (vx rs ss how)) x.2.1 x.2.2 x.1.1) (H:=fun _=>True) J J J (lb J) (fun w1 hs=>K1 (V:=fun A' c'=>qK A' (vx rs ss how).length c') (K8 tA _ tc (vx rs ss how) w1 (CQ (hs.all 9 _ J).1) hoT)) ?_
               rintro⟨⟨oA,oc⟩,olo,ohi⟩ -
               refine n9 ?_;refine JU (u9 J) ?_;refine J8 (i:=9) J Dc Kr J ?_;refine S1 ?_;refine JU (u9 J) ?_;refine JI Kr ?_;refine S1 ?_
               exact ky h_15 ((((oA,oc),olo,ohi),b7)) (trivial) ⟨J,sz⟩ (fun _ h=>h.picks [2,10,8] Dc)
             ·refine aL (fun b8=> ?_);refine n9 ?_;refine JU (u9 J) ?_;refine J8 (i:=5) J Dc Kr J ?_;refine JR KW (v:=fun x:Option Addr×Nat=> .slice x.1 (Kh rs ss how).length x.2) (r:=fun x=>JQ 0 96 4 (Kh rs ss how).length ((Kh rs ss how).flatMap jU) x) (H:=fun _=>True) J J J (lb J) (fun w1 hs=>qJ (VY (eA,ec) (fA,fc) (Jx (YL rs ss)) (Jx (yz rs ss)) how w1 (hs.all 5 _ J).1 (hs.all 6 _ J).1 hTw)) ?_
              rintro⟨bA,bc⟩ -
              refine n9 ?_;refine JU (u9 J) ?_;refine J8 (i:=6) J Dc Kr J ?_;refine JR Ks (X:= (Option Addr×Nat)×Nat×Nat) (v:=fun x=>qK x.1.1 (vx rs ss how).length x.1.2) (r:=fun x=>HS x.2.1 x.2.2 (vx rs ss how).length (vx rs ss how) x.1.1) (H:=fun _=>True) J J J (lb J) (fun w1 hs=>MJ (V:=fun A' c'=>qK A' (vx rs ss how).length c') (Vj bA _ bc (Kh rs ss how) w1 (QO (k:=8) (x:= (bA,bc)) (ls:=Kh rs ss how) J J w1 hs) (Zu hTw) (LF hTw hPr))) ?_
              rintro⟨⟨tA,tc⟩,tlo,thi⟩ -
              refine n9 ?_;refine JU (u9 J) ?_;refine J8 (i:=7) J Dc Kr J ?_;refine JR kq (X:= (Option Addr×Nat)×Nat×Nat) (v:=fun x=>qK x.1.1 (vx rs ss how).length x.1.2) (r:=fun x=>Q6 (vx rs ss how).length (wX (vx rs ss how)) x.2.1 x.2.2 x.1.1) (H:=fun _=>True) J J J (lb J) (fun w1 hs=>K1 (V:=fun A' c'=>qK A' (vx rs ss how).length c') (K8 tA _ tc (vx rs ss how) w1 (CQ (hs.all 9 _ J).1) hoT)) ?_
              rintro⟨⟨oA,oc⟩,olo,ohi⟩ -
              refine n9 ?_;refine JU (u9 J) ?_;refine J8 (i:=9) J Dc Kr J ?_;refine S1 ?_;refine JU (u9 J) ?_;refine JI Kr ?_;refine S1 ?_
              exact ky h_15 ((((oA,oc),olo,ohi),b8)) (trivial) ⟨J,sz⟩ (fun _ h=>h.picks [2,10,7] Dc)
            ·refine aL (fun b9=> ?_);refine n9 ?_;refine JU (u9 J) ?_;refine J8 (i:=3) J Dc Kr J ?_;refine JR kW (v:=fun x:Option Addr×Nat=> .slice x.1 (Jx (yz rs ss)).length x.2) (r:=fun x=>JQ 0 96 4 (Jx (yz rs ss)).length ((Jx (yz rs ss)).flatMap jU) x) (H:=fun _=>True) J J J (lb J) (fun w1 hs=>qJ (vV mA _ mc (yz rs ss) w1 (WX (hs.all 4 _ J).1).rings (jhA hs2 Dc))) ?_
             rintro⟨fA,fc⟩ -
             refine n9 ?_;refine JU (u9 J) ?_;refine J8 (i:=5) J Dc Kr J ?_;refine JR KW (v:=fun x:Option Addr×Nat=> .slice x.1 (Kh rs ss how).length x.2) (r:=fun x=>JQ 0 96 4 (Kh rs ss how).length ((Kh rs ss how).flatMap jU) x) (H:=fun _=>True) J J J (lb J) (fun w1 hs=>qJ (VY (eA,ec) (fA,fc) (Jx (YL rs ss)) (Jx (yz rs ss)) how w1 (hs.all 5 _ J).1 (hs.all 7 _ J).1 hTw)) ?_
             rintro⟨bA,bc⟩ -
             refine n9 ?_;refine JU (u9 J) ?_;refine J8 (i:=6) J Dc Kr J ?_;refine JR Ks (X:= (Option Addr×Nat)×Nat×Nat) (v:=fun x=>qK x.1.1 (vx rs ss how).length x.1.2) (r:=fun x=>HS x.2.1 x.2.2 (vx rs ss how).length (vx rs ss how) x.1.1) (H:=fun _=>True) J J J (lb J) (fun w1 hs=>MJ (V:=fun A' c'=>qK A' (vx rs ss how).length c') (Vj bA _ bc (Kh rs ss how) w1 (QO (k:=8) (x:= (bA,bc)) (ls:=Kh rs ss how) J J w1 hs) (Zu hTw) (LF hTw hPr))) ?_
             rintro⟨⟨tA,tc⟩,tlo,thi⟩ -
             refine n9 ?_;refine JU (u9 J) ?_;refine J8 (i:=7) J Dc Kr J ?_;refine JR kq (X:= (Option Addr×Nat)×Nat×Nat) (v:=fun x=>qK x.1.1 (vx rs ss how).length x.1.2) (r:=fun x=>Q6 (vx rs ss how).length (wX (vx rs ss how)) x.2.1 x.2.2 x.1.1) (H:=fun _=>True) J J J (lb J) (fun w1 hs=>K1 (V:=fun A' c'=>qK A' (vx rs ss how).length c') (K8 tA _ tc (vx rs ss how) w1 (CQ (hs.all 9 _ J).1) hoT)) ?_
             rintro⟨⟨oA,oc⟩,olo,ohi⟩ -
             refine n9 ?_;refine JU (u9 J) ?_;refine J8 (i:=9) J Dc Kr J ?_;refine S1 ?_;refine JU (u9 J) ?_;refine JI Kr ?_;refine S1 ?_
             exact ky h_15 ((((oA,oc),olo,ohi),b9)) (trivial) ⟨J,sz⟩ (fun _ h=>h.picks [2,10,6] Dc)
           ·refine aL (fun b10=> ?_);refine n9 ?_;refine JU (u9 J) ?_;refine J8 (i:=1) J Dc Kr J ?_;refine JR kW (v:=fun x:Option Addr×Nat=> .slice x.1 (Jx (YL rs ss)).length x.2) (r:=fun x=>JQ 0 96 4 (Jx (YL rs ss)).length ((Jx (YL rs ss)).flatMap jU) x) (H:=fun _=>True) J J J (lb J) (fun w1 hs=>qJ (vV hA _ hc (YL rs ss) w1 (WX (hs.all 3 _ J).1).rings (jhA hs1 Dc))) ?_
            rintro⟨eA,ec⟩ -
            refine n9 ?_;refine JU (u9 J) ?_;refine J8 (i:=3) J Dc Kr J ?_;refine JR kW (v:=fun x:Option Addr×Nat=> .slice x.1 (Jx (yz rs ss)).length x.2) (r:=fun x=>JQ 0 96 4 (Jx (yz rs ss)).length ((Jx (yz rs ss)).flatMap jU) x) (H:=fun _=>True) J J J (lb J) (fun w1 hs=>qJ (vV mA _ mc (yz rs ss) w1 (WX (hs.all 4 _ J).1).rings (jhA hs2 Dc))) ?_
            rintro⟨fA,fc⟩ -
            refine n9 ?_;refine JU (u9 J) ?_;refine J8 (i:=5) J Dc Kr J ?_;refine JR KW (v:=fun x:Option Addr×Nat=> .slice x.1 (Kh rs ss how).length x.2) (r:=fun x=>JQ 0 96 4 (Kh rs ss how).length ((Kh rs ss how).flatMap jU) x) (H:=fun _=>True) J J J (lb J) (fun w1 hs=>qJ (VY (eA,ec) (fA,fc) (Jx (YL rs ss)) (Jx (yz rs ss)) how w1 (hs.all 6 _ J).1 (hs.all 7 _ J).1 hTw)) ?_
            rintro⟨bA,bc⟩ -
            refine n9 ?_;refine JU (u9 J) ?_;refine J8 (i:=6) J Dc Kr J ?_;refine JR Ks (X:= (Option Addr×Nat)×Nat×Nat) (v:=fun x=>qK x.1.1 (vx rs ss how).length x.1.2) (r:=fun x=>HS x.2.1 x.2.2 (vx rs ss how).length (vx rs ss how) x.1.1) (H:=fun _=>True) J J J (lb J) (fun w1 hs=>MJ (V:=fun A' c'=>qK A' (vx rs ss how).length c') (Vj bA _ bc (Kh rs ss how) w1 (QO (k:=8) (x:= (bA,bc)) (ls:=Kh rs ss how) J J w1 hs) (Zu hTw) (LF hTw hPr))) ?_
            rintro⟨⟨tA,tc⟩,tlo,thi⟩ -
            refine n9 ?_;refine JU (u9 J) ?_;refine J8 (i:=7) J Dc Kr J ?_;refine JR kq (X:= (Option Addr×Nat)×Nat×Nat) (v:=fun x=>qK x.1.1 (vx rs ss how).length x.1.2) (r:=fun x=>Q6 (vx rs ss how).length (wX (vx rs ss how)) x.2.1 x.2.2 x.1.1) (H:=fun _=>True) J J J (lb J) (fun w1 hs=>K1 (V:=fun A' c'=>qK A' (vx rs ss how).length c') (K8 tA _ tc (vx rs ss how) w1 (CQ (hs.all 9 _ J).1) hoT)) ?_
            rintro⟨⟨oA,oc⟩,olo,ohi⟩ -
            refine n9 ?_;refine JU (u9 J) ?_;refine J8 (i:=9) J Dc Kr J ?_;refine S1 ?_;refine JU (u9 J) ?_;refine JI Kr ?_;refine S1 ?_
            exact ky h_15 ((((oA,oc),olo,ohi),b10)) (trivial) ⟨J,sz⟩ (fun _ h=>h.picks [2,10,5] Dc)
          ·rintro⟨⟨⟨oA,oc⟩,olo,ohi⟩,bo⟩ -
           refine v9 ?_;refine r9 ?_;refine S4 ?_;refine a9 (jJ Ka J J (fun w1 hs=>VX oA _ oc (wX (vx rs ss how)) w1 (WX (hs.all 1 _ J).1).rings (by have:=hoT.1;omega))) ?_;refine S2 ?_;refine cZ (fun c6=> ?_) (fun c6=> ?_)
           ·refine S2 ?_;refine a9 (J0 J J (qq)) ?_;refine S6 ?_;refine qo J (qh (k:=0) J jI J J) (.tmp J) ?_
            intro w' hs
            obtain ⟨f1,f2⟩ :=jeP c6
            exact⟨none,0,by rw [f1,f2];rfl,by rw [f1];exact OwnG.nil none,hs.fin⟩
           ·refine S10 ?_;refine qo J (qh (k:=0) J jI J J) (.tmp J) ?_
            intro w' hs
            obtain ⟨f1,f2⟩ :=jcW c6
            have hg:=hs.all 1 _ rfl
            have ho:=ZE hg.1 (fun b hb=> (hg.2.1 b hb).elim id (fun h=>by cases h))
            exact⟨oA,oc,by rw [f1,f2,MC],by rw [f1,MC];exact ho,hs.fin⟩
end Go.Proofs.YtbahojdbmmjkcaaGreat
