import Derived.Test.YtbahojdbmmjkcaaGreatSBrd2
set_option linter.unusedVariables false
set_option linter.unusedSimpArgs false
namespace Go.Proofs.YtbahojdbmmjkcaaGreat
open Go Go.RowKit
variable {A:Option Addr} {V:Option Addr→Nat→Value} {args:Array Value} {how:Int} {rs ss:List Jp}
set_option maxRecDepth 100000
set_option maxHeartbeats 4000000
theorem O0 {P:Program} {f:FuncId} {w1:World} {n:Nat} (h:Calls P f args w1 fun e w'=>∃A c,e= .returned (V A c)∧OwnG w1.heap.size w'.heap.size w' A n rs∧(LQ w1.heap.size w'.heap.size n rs A).P w'∧Over w1 w') :
  Calls P f args w1 fun e w'=>∃x: (Option Addr×Nat)×Nat×Nat,e= .returned (V x.1.1 x.1.2)∧Over w1 w'∧(LQ x.2.1 x.2.2 n rs x.1.1).P w'∧(∀b,(LQ x.2.1 x.2.2 n rs x.1.1).F b→w1.heap.size≤b)∧(LQ x.2.1 x.2.2 n rs x.1.1).B=0∧True:=by
 refine h.mono ?_
 rintro e w' ⟨A,c,rfl,ho,hc,hO⟩
 exact⟨((A,c),w1.heap.size,w'.heap.size),rfl,hO,hc,fun b hb=>hb.1,sz⟩
theorem jaL {lo hi n:Nat} {w:World} (h: (LQ lo hi n rs A).P w) :RingsC w A n rs:=h.2 w h.1 fun _ _ _=>rfl
theorem jbF (h: (!Gk rs ss) =true) :yU rs ss how= []∧BT rs ss how=1:=by
 rw [ji0] at h
 simp [yU,BT,h]
theorem jgf (h:Gk rs ss=true) (h2: (!MT how) =true) :yU rs ss how= []∧BT rs ss how=2:=by
 rw [ji0] at h2
 simp [yU,BT,h,h2]
theorem jfC (h:Gk rs ss=true) (h2:MT how=true) :yU rs ss how=Nb rs ss how∧BT rs ss how=coC rs ss how:=by
 simp [yU,BT,h,h2]
theorem LU (h:ZN rs ss=false) :Nb rs ss how= []∧coC rs ss how=5:=by simp [Nb,coC,h]
theorem jbL (h:ZN rs ss=true) :Nb rs ss how=Lv (Wq (vR rs ss how))∧coC rs ss how=yf (Wq (vR rs ss how)) :=by simp [Nb,coC,h]
theorem jgm (h:J0 rs=false) :Lv rs= []∧yf rs=5:=by simp [Lv,yf,h]
theorem jer (h:J0 rs=true) :Lv rs=rs∧yf rs=0:=by simp [Lv,yf,h]
theorem Cg (h:¬(Jw rs++Jw ss).length≤400) :ZN rs ss=false:=by simp only [ZN,decide_eq_false h,jiS]
theorem jbX (h: (ut rs ss&&UY rs ss) =false) :ZN rs ss=false:=by rw [ZN,h,jjJ]
theorem jbW (hl: (Jw rs++Jw ss).length≤400) (h: (ut rs ss&&UY rs ss) =true) :ZN rs ss=true:=by rw [ZN,h,Bool.and_true,decide_eq_true hl]
theorem Z2 (A:Option Addr) (n c:Nat) (rs:List Jp) (A2:Option Addr) (n2 c2_:Nat) (ss:List Jp) (how:Int) (w:World) (h:Rings w A n rs) (hm: (n:Int)≤9223372036854775807) (h2:Rings w A2 n2 ss) (hm2: (n2:Int)≤9223372036854775807) :
  Calls Tryz.prog 14 #[qG A n c,qG A2 n2 c2_, .int .i64 how] w fun e w'=>∃A' c',e= .returned (.tuple #[qG A' (yU rs ss how).length c', .int .i64 (BT rs ss how)])∧OwnG w.heap.size w'.heap.size w' A' (yU rs ss how).length (yU rs ss how)∧Over w w':=by
 have hl:=h.1
 have hl2:=h2.1
 refine jK (m:=78) (Tryz.func14) J J (lb J) ?_;refine S3 ?_;refine aX (fun b1=> ?_);refine N1 ?_;refine aX (fun b2=> ?_);refine N1 ?_;refine aL (fun b3=> ?_);refine N3 ?_;refine qr [(20, .bool (!Gk rs ss))] (kK [2,3,4,6,7]) (fun L h_1=> ?_) ?_
 ·refine S2 ?_;refine a9 (jG Kv J J (fun w1 hs=>wi A n c rs w1 (h.over hs.fin) hm)) ?_;refine S2 ?_;refine cV 16 (fun g1=> ?_) (fun g1=> ?_)
  ·refine S5 ?_
   exact Js h_1 ⟨vb (by rw [Gk,g1];rfl),sz⟩ (u9 J)
  ·refine S3 ?_;refine o9 (jG Kv J J (fun w1 hs=>wi A2 n2 c2_ ss w1 (h2.over hs.fin) hm2)) ?_;refine S4 ?_
   exact Js h_1 ⟨vb (by rw [Gk,g1];rfl),sz⟩ (u9 J)
 ·refine v9 ?_;refine cZ (fun c1=> ?_) (fun c1=> ?_)
  ·refine S2 ?_;refine a9 (JF J J (JJ)) ?_;refine S6 ?_;refine JX J (JZ (k:=2) J jE J J) (.tmp J) ?_
   intro w' hs
   obtain ⟨e1,e2⟩ :=jbF (how:=how) (by simpa using c1)
   exact⟨none,0,by rw [e1,e2];rfl,by rw [e1];exact OwnG.nil none,hs.fin⟩
  ·have hin:Gk rs ss=true:= (by simpa using c1)
   refine S3 ?_;refine qr [(27, .bool (!MT how))] (kK [2,3,4,6,7]) (fun L h_3=> ?_) ?_
   ·refine S4 ?_;refine cV 24 (fun g2=> ?_) (fun g2=> ?_)
    ·refine S4 ?_
     exact Js h_3 ⟨vb (by rw [MT,decide_eq_false (show¬1≤how by omega)];rfl),sz⟩ (u9 J)
    ·refine S6 ?_
     exact Js h_3 ⟨vb (by rw [MT,decide_eq_true (show 1≤how by omega),jiJ,jiK];simp),sz⟩ (u9 J)
   ·refine v9 ?_;refine cZ (fun c2=> ?_) (fun c2=> ?_)
    ·refine S2 ?_;refine a9 (JF J J (JJ)) ?_;refine S6 ?_;refine JX J (JZ (k:=2) J jE J J) (.tmp J) ?_
     intro w' hs
     obtain ⟨e1,e2⟩ :=jgf (how:=how) hin (by simpa using c2)
     exact⟨none,0,by rw [e1,e2];rfl,by rw [e1];exact OwnG.nil none,hs.fin⟩
    ·obtain ⟨e1,e2⟩ :=jfC (how:=how) hin (by simpa using c2)
     rw [e1,e2]
     have hr:J0 rs=true:= (by have:=hin;rw [Gk,jig] at this;exact this.1)
     have hr2:J0 ss=true:= (by have:=hin;rw [Gk,jig] at this;exact this.2)
     have hb1:=yO hr
     have hb2:=yO hr2
     have ht1:= (smallR.of hb1).total
     have ht2:= (smallR.of hb2).total
     have eb1:=VC hr
     have eb2:=VC hr2
     have hE1:=G5 hr
     have hE2:=G5 hr2
     refine S2 ?_;refine Uz (X:= ((Option Addr×Nat)×Nat×Nat)×((Option Addr×Nat)×Nat×Nat)) (fun x=>True) (fun x=> []) (kK [2,3,4,6,7]) (fun x=> [.cel b1 26 [.slice x.1.1.1 (qh rs).length x.1.1.2], .cel b2 26 [.slice x.2.1.1 (qh ss).length x.2.1.2], .cel b3 26 [.slice none 0 0],kx (qh rs).length (qh rs) x.1.2.1 x.1.2.2 x.1.1.1,kx (qh ss).length (qh ss) x.2.2.1 x.2.2.2 x.2.1.1]) (fun L h_5=> ?_) ?_
     ·refine S1 ?_;refine JH 4 ?_;refine dK 0 ?_;refine dV 2 [3] ?_;refine qd (i:=1) J Dc Kr J ?_;refine JQ uJ (X:= (Option Addr×Nat)×Nat×Nat) (v:=fun x=>qG x.1.1 (qh rs).length x.1.2) (r:=fun x=>kx (qh rs).length (qh rs) x.2.1 x.2.2 x.1.1) (H:=fun _=>True) J J J (lb J) (fun w1 hs=>K7 (Yr A n c rs w1 (h.over hs.fin) hr)) ?_
      rintro⟨⟨gA,gc⟩,glo,ghi⟩ -
      refine n9 ?_;refine UB (u9 J) ?_;refine qd (i:=3) J Dc Kr J ?_;refine JQ uJ (X:= (Option Addr×Nat)×Nat×Nat) (v:=fun x=>qG x.1.1 (qh ss).length x.1.2) (r:=fun x=>kx (qh ss).length (qh ss) x.2.1 x.2.2 x.1.1) (H:=fun _=>True) J J J (lb J) (fun w1 hs=>K7 (Yr A2 n2 c2_ ss w1 (h2.over hs.fin) hr2)) ?_
      rintro⟨⟨kA,kc⟩,klo,khi⟩ -
      refine n9 ?_;refine UB (u9 J) ?_;refine kN J Kr J ?_;refine S1 ?_;refine Q0 6 [1] ?_;refine qd (i:=5) J Dc Kr J ?_;refine S1 ?_;refine JU (uw [1] J) ?_;refine JB Kr ?_;refine S1 ?_
      exact Ka h_5 ((((gA,gc),glo,ghi),((kA,kc),klo,khi))) (trivial) ⟨J,sz⟩ (fun _ h=>h.picks [0,1,2,3,4] Dc)
     ·rintro⟨⟨⟨gA,gc⟩,glo,ghi⟩,⟨⟨kA,kc⟩,klo,khi⟩⟩ -
      refine v9 ?_;refine r9 ?_;refine Uz (X:=Option Addr×Nat) (fun x=>True) (fun x=> [(8, .slice x.1 (Rr rs ss).length x.2)]) (kK [2,3,4,6,7]) (fun x=> [.cel b1 26 [.slice gA (qh rs).length gc], .cel b2 26 [.slice kA (qh ss).length kc], .cel b3 26 [.slice none 0 0],kx (qh rs).length (qh rs) glo ghi gA,kx (qh ss).length (qh ss) klo khi kA,JS 0 96 4 (Rr rs ss).length ((Rr rs ss).flatMap Je) x]) (fun L h_6=> ?_) ?_
      ·refine S1 ?_;refine JH 7 ?_;refine dK 0 ?_;refine dK 2 ?_;refine qd (i:=1) J Dc Kr J ?_;refine JQ Kq (v:=fun x:Option Addr×Nat=> .slice x.1 (Jw rs).length x.2) (r:=fun x=>JS 0 96 4 (Jw rs).length ((Jw rs).flatMap Je) x) (H:=fun _=>True) J J J (lb J) (fun w1 hs=>qI (by rw [←eb1];exact Vn gA _ gc (qh rs) w1 (uO (hs.all 3 _ J).1).rings Om)) ?_
       rintro⟨eA,ec⟩ -
       refine n9 ?_;refine UB (u9 J) ?_;refine qd (i:=3) J Dc Kr J ?_;refine JQ Kq (v:=fun x:Option Addr×Nat=> .slice x.1 (Jw ss).length x.2) (r:=fun x=>JS 0 96 4 (Jw ss).length ((Jw ss).flatMap Je) x) (H:=fun _=>True) J J J (lb J) (fun w1 hs=>qI (by rw [←eb2];exact Vn kA _ kc (qh ss) w1 (uO (hs.all 4 _ J).1).rings Om)) ?_
       rintro⟨fA,fc⟩ -
       refine n9 ?_;refine UB (u9 J) ?_;refine qd (i:=4) J Dc Kr J ?_;refine jX J J (VX J J) J (lb J) (fun b4=> ?_);refine n9 ?_;refine JU (u9 J) ?_;refine qd (i:=5) J Dc Kr J ?_;refine JQ Kl (v:=fun x:Option Addr×Nat=> .slice x.1 (Rr rs ss).length x.2) (r:=fun x=>JS 0 96 4 (Rr rs ss).length ((Rr rs ss).flatMap Je) x) (H:=fun _=>True) J J J (lb J) (fun w1 hs=>qI (Cc (hs.cel (k:=7) J) (x1:= (eA,ec)) (x2:= (fA,fc)) (E1:=Jw rs) (E2:=Jw ss) (hs.all 5 _ J).1 (hs.all 6 _ J).1 Om)) ?_
       rintro⟨lA_,lc⟩ -
       refine n9 ?_;refine JU (u9 J) ?_;refine dK 6 ?_;refine JB Kr ?_;refine S1 ?_
       exact Ka h_6 ((lA_,lc)) (trivial) ⟨J,sz⟩ (fun _ h=>h.picks [0,1,2,3,4,8] Dc)
      ·rintro⟨lA_,lc⟩ -
       refine v9 ?_;refine r9 ?_;refine S7 ?_;refine cZ (fun c3=> ?_) (fun c3=> ?_)
       ·refine S2 ?_;refine a9 (JF J J (JJ)) ?_;refine S6 ?_;refine JX J (JZ (k:=2) J jE J J) (.tmp J) ?_
        intro w' hs
        have hno:=Cg (rs:=rs) (ss:=ss) (show¬(Rr rs ss).length≤400 by omega)
        obtain ⟨e3,e4⟩ :=LU (how:=how) hno
        exact⟨none,0,by rw [e3,e4];rfl,by rw [e3];exact OwnG.nil none,hs.fin⟩
       ·have h4: (Rr rs ss).length≤400:=Om
        have hC:CmOk rs ss:=⟨hr,hr2,h4⟩
        have hk:=hC.hot1
        have hk2:=hC.hot2
        refine S6 ?_;refine JQ Xv (v:=fun x:Option Addr×Nat=> .slice x.1 (za rs ss).length x.2) (r:=fun x=>JS 0 28 2 (za rs ss).length ((za rs ss).flatMap jV) x) (H:=fun _=>True) J J J (lb J) (fun w1 hs=>qI (BZ lA_ _ lc (Rr rs ss) w1 (vJ (k:=5) (x:= (lA_,lc)) (ls:=Rr rs ss) J J w1 hs) hC.legs h4 (v6 (hs.all 5 _ J).1))) ?_
        rintro⟨pA,pc⟩ -
        refine N7 ?_;refine we (k:=3) (X:= (Option Addr×Nat)×Nat×Nat) (v:=fun x=> .tuple #[qG x.1.1 (Y9 rs ss).length x.1.2, .int .i64 (Er (za rs ss) (qh rs)), .int .i64 (if ut rs ss=true then 0 else 5)]) (r':=fun x=>kx (Y9 rs ss).length (Y9 rs ss) x.2.1 x.2.2 x.1.1) Uq J J J Dc J (fun w1 hs=>jb2 (A:=gA) (c:=gc) (V:=fun A' c'=> .tuple #[qG A' (Y9 rs ss).length c', .int .i64 (Er (za rs ss) (qh rs)), .int .i64 (if ut rs ss=true then 0 else 5)]) (hs.all 3 _ J).1 J (z7 gA _ gc (qh rs) pA (za rs ss).length pc (za rs ss) w1 (uO (hs.all 3 _ J).1).rings hk.reg (kE (hs.all 6 _ J).1 J) hk.len (v6 (hs.all 6 _ J).1) hk.ok hk.asc hk.nd hk.bare)) ?_
        rintro⟨⟨hA,hc⟩,hlo,hhi⟩
        refine N9 ?_;refine Uz (X:=List Jp×(Option Addr×Nat)×Nat×Nat) (fun x=> (ut rs ss&&UY rs ss) =true→x.1=yX rs ss) (fun x=> [(11, .int .i64 (if(ut rs ss&&UY rs ss) =true then 0 else 5))]) (kK [2,3,4,6,7]) (fun x=> [.cel b1 26 [.slice hA (Y9 rs ss).length hc], .cel b2 26 [.slice x.2.1.1 x.1.length x.2.1.2], .cel b3 26 [.slice none 0 0],kx (Y9 rs ss).length (Y9 rs ss) hlo hhi hA,kx x.1.length x.1 x.2.2.1 x.2.2.2 x.2.1.1]) (fun L h_t53=> ?_) ?_
        ·refine S5 ?_;refine cZ (fun c4=> ?_) (fun c4=> ?_)
         ·have hOa:ut rs ss=true:= (by cases k:ut rs ss<;>simp_all)
          refine S4 ?_;refine we (k:=4) (X:= (Option Addr×Nat)×Nat×Nat) (v:=fun x=> .tuple #[qG x.1.1 (yX rs ss).length x.1.2, .int .i64 (Er (za rs ss) (qh ss)), .int .i64 (if UY rs ss=true then 0 else 5)]) (r':=fun x=>kx (yX rs ss).length (yX rs ss) x.2.1 x.2.2 x.1.1) Uq J J J Dc J (fun w1 hs=>jb2 (A:=kA) (c:=kc) (V:=fun A' c'=> .tuple #[qG A' (yX rs ss).length c', .int .i64 (Er (za rs ss) (qh ss)), .int .i64 (if UY rs ss=true then 0 else 5)]) (hs.all 4 _ J).1 J (z7 kA _ kc (qh ss) pA (za rs ss).length pc (za rs ss) w1 (uO (hs.all 4 _ J).1).rings hk2.reg (kE (hs.all 6 _ J).1 J) hk2.len (v6 (hs.all 6 _ J).1) hk2.ok hk2.asc hk2.nd hk2.bare)) ?_
          rintro⟨⟨mA,mc⟩,mlo,mhi⟩
          refine N8 ?_
          exact Ka h_t53 ((yX rs ss,(mA,mc),mlo,mhi)) (fun _=>rfl) ⟨by rw [hOa,jiJ];rfl,sz⟩ (fun _ h=> (h.picks [0,1,2,3,4] Dc).upto ⟨J,sz⟩)
         ·have hOa:ut rs ss=false:= (by cases k:ut rs ss<;>simp_all)
          refine S2 ?_
          exact Ka h_t53 ((qh ss,(kA,kc),klo,khi)) (fun h=>by rw [hOa] at h;cases h) ⟨by rw [hOa];rfl,sz⟩ (fun _ h=> (h.picks [0,1,2,3,4] Dc).upto ⟨rfl,sz⟩)
        ·rintro⟨bs,⟨mA,mc⟩,mlo,mhi⟩ hbs
         refine v9 ?_;refine r9 ?_;refine S6 ?_;refine cZ (fun c5=> ?_) (fun c5=> ?_)
         ·refine S2 ?_;refine a9 (JF J J (JJ)) ?_;refine S7 ?_;refine JX J (JZ (k:=2) J jE J J) (.tmp J) ?_
          intro w' hs
          have hO: (ut rs ss&&UY rs ss) =false:= (by cases k: (ut rs ss&&UY rs ss) <;>simp_all)
          obtain ⟨e3,e4⟩ :=LU (how:=how) (jbX hO)
          exact⟨none,0,by rw [e3,e4,hO];rfl,by rw [e3];exact OwnG.nil none,hs.fin⟩
         ·have hO: (ut rs ss&&UY rs ss) =true:= (by cases k: (ut rs ss&&UY rs ss) <;>simp_all)
          obtain rfl:bs=yX rs ss:=hbs hO
          have hO1:ut rs ss=true:= (by rw [jig] at hO;exact hO.1)
          have hO2:UY rs ss=true:= (by rw [jig] at hO;exact hO.2)
          have hg1:= (Lb hk hO1).1
          have hg2:= (Lb hk2 hO2).1
          have hs1:= (smallR.of hg1).total
          have hs2:= (smallR.of hg2).total
          have hTw:=hC.two hO1 hO2
          have hPr:=hC.pair hO1 hO2
          have hoT:=hC.okT hO1 hO2 how
          obtain ⟨e3,e4⟩ :=jbL (how:=how) (jbW h4 hO)
          rw [e3,e4]
          refine S2 ?_;refine Uz (X:= ((Option Addr×Nat)×Nat×Nat)×Nat) (fun x=>True) (fun x=> [(12, .pointer (some ⟨x.2,0,none⟩))]) (kK [6,7]) (fun x=> [.cel b3 26 [.slice none 0 0],kx (vR rs ss how).length (Wq (vR rs ss how)) x.1.2.1 x.1.2.2 x.1.1.1, .cel x.2 26 [.slice x.1.1.1 (vR rs ss how).length x.1.1.2]]) (fun L h_15=> ?_) ?_
          ·refine S1 ?_;refine JH 10 ?_;refine dK 0 ?_;refine dK 2 ?_;refine dK 4 ?_;refine MG (i:=1) (j:=8) J J Dc Dc Kr J J ?_ ?_
           ·refine JQ Kq (v:=fun x:Option Addr×Nat=> .slice x.1 (Jw (Y9 rs ss)).length x.2) (r:=fun x=>JS 0 96 4 (Jw (Y9 rs ss)).length ((Jw (Y9 rs ss)).flatMap Je) x) (H:=fun _=>True) J J J (lb J) (fun w1 hs=>qI (Vn hA _ hc (Y9 rs ss) w1 (uO (hs.all 3 _ J).1).rings (jjs hs1 Dc))) ?_
            rintro⟨eA,ec⟩ -
            refine n9 ?_;refine JU (u9 J) ?_;refine MG (i:=3) (j:=8) J J Dc Dc Kr J J ?_ ?_
            ·refine JQ Kq (v:=fun x:Option Addr×Nat=> .slice x.1 (Jw (yX rs ss)).length x.2) (r:=fun x=>JS 0 96 4 (Jw (yX rs ss)).length ((Jw (yX rs ss)).flatMap Je) x) (H:=fun _=>True) J J J (lb J) (fun w1 hs=>qI (Vn mA _ mc (yX rs ss) w1 (uO (hs.all 4 _ J).1).rings (jjs hs2 Dc))) ?_
             rintro⟨fA,fc⟩ -
             refine n9 ?_;refine JU (u9 J) ?_;refine MG (i:=5) (j:=8) J J Dc Dc Kr J J ?_ ?_
             ·refine JQ ve (v:=fun x:Option Addr×Nat=> .slice x.1 (KA rs ss how).length x.2) (r:=fun x=>JS 0 96 4 (KA rs ss how).length ((KA rs ss how).flatMap Je) x) (H:=fun _=>True) J J J (lb J) (fun w1 hs=>qI (wj (eA,ec) (fA,fc) (Jw (Y9 rs ss)) (Jw (yX rs ss)) how w1 (hs.all 5 _ J).1 (hs.all 6 _ J).1 hTw)) ?_
              rintro⟨bA,bc⟩ -
              refine n9 ?_;refine JU (u9 J) ?_;refine MG (i:=6) (j:=8) J J Dc Dc Kr J J ?_ ?_
              ·refine JQ KJ (X:= (Option Addr×Nat)×Nat×Nat) (v:=fun x=>qG x.1.1 (vR rs ss how).length x.1.2) (r:=fun x=>LQ x.2.1 x.2.2 (vR rs ss how).length (vR rs ss how) x.1.1) (H:=fun _=>True) J J J (lb J) (fun w1 hs=>O0 (V:=fun A' c'=>qG A' (vR rs ss how).length c') (Vx bA _ bc (KA rs ss how) w1 (vJ (k:=7) (x:= (bA,bc)) (ls:=KA rs ss how) J J w1 hs) (Z6 hTw) (My hTw hPr))) ?_
               rintro⟨⟨tA,tc⟩,tlo,thi⟩ -
               refine n9 ?_;refine JU (u9 J) ?_;refine MG (i:=7) (j:=8) J J Dc Dc Kr J J ?_ ?_
               ·refine JQ kS (X:= (Option Addr×Nat)×Nat×Nat) (v:=fun x=>qG x.1.1 (vR rs ss how).length x.1.2) (r:=fun x=>kx (vR rs ss how).length (Wq (vR rs ss how)) x.2.1 x.2.2 x.1.1) (H:=fun _=>True) J J J (lb J) (fun w1 hs=>K7 (V:=fun A' c'=>qG A' (vR rs ss how).length c') (vt tA _ tc (vR rs ss how) w1 (jaL (hs.all 8 _ J).1) hoT)) ?_
                rintro⟨⟨oA,oc⟩,olo,ohi⟩ -
                refine n9 ?_;refine JU (u9 J) ?_;refine qd (i:=8) J Dc Kr J ?_;refine aL (fun b5=> ?_);refine n9 ?_;refine JU (u9 J) ?_;refine qd (i:=9) J Dc Kr J ?_;refine j9 10 ju.szx ?_;refine n9 ?_;refine JU (u9 J) ?_;refine JB Kr ?_;refine S1 ?_
                exact Ka h_15 ((((oA,oc),olo,ohi),b5)) (trivial) ⟨J,sz⟩ (fun _ h=>h.picks [2,9,10] Dc)
               ·refine aL (fun b6=> ?_);refine n9 ?_;refine JU (u9 J) ?_;refine qd (i:=7) J Dc Kr J ?_;refine JQ kS (X:= (Option Addr×Nat)×Nat×Nat) (v:=fun x=>qG x.1.1 (vR rs ss how).length x.1.2) (r:=fun x=>kx (vR rs ss how).length (Wq (vR rs ss how)) x.2.1 x.2.2 x.1.1) (H:=fun _=>True) J J J (lb J) (fun w1 hs=>K7 (V:=fun A' c'=>qG A' (vR rs ss how).length c') (vt tA _ tc (vR rs ss how) w1 (jaL (hs.all 8 _ J).1) hoT)) ?_
                rintro⟨⟨oA,oc⟩,olo,ohi⟩ -
                refine n9 ?_;refine JU (u9 J) ?_;refine qd (i:=9) J Dc Kr J ?_;refine S1 ?_;refine JU (u9 J) ?_;refine JB Kr ?_;refine S1 ?_
                exact Ka h_15 ((((oA,oc),olo,ohi),b6)) (trivial) ⟨J,sz⟩ (fun _ h=>h.picks [2,10,9] Dc)
              ·refine aL (fun b7=> ?_);refine n9 ?_;refine JU (u9 J) ?_;refine qd (i:=6) J Dc Kr J ?_;refine JQ KJ (X:= (Option Addr×Nat)×Nat×Nat) (v:=fun x=>qG x.1.1 (vR rs ss how).length x.1.2) (r:=fun x=>LQ x.2.1 x.2.2 (vR rs ss how).length (vR rs ss how) x.1.1) (H:=fun _=>True) J J J (lb J) (fun w1 hs=>O0 (V:=fun A' c'=>qG A' (vR rs ss how).length c') (Vx bA _ bc (KA rs ss how) w1 (vJ (k:=7) (x:= (bA,bc)) (ls:=KA rs ss how) J J w1 hs) (Z6 hTw) (My hTw hPr))) ?_
               rintro⟨⟨tA,tc⟩,tlo,thi⟩ -
               refine n9 ?_;refine JU (u9 J) ?_;refine qd (i:=7) J Dc Kr J ?_;refine JQ kS (X:= (Option Addr×Nat)×Nat×Nat) (v:=fun x=>qG x.1.1 (vR rs ss how).length x.1.2) (r:=fun x=>kx (vR rs ss how).length (Wq (vR rs ss how)) x.2.1 x.2.2 x.1.1) (H:=fun _=>True) J J J (lb J) (fun w1 hs=>K7 (V:=fun A' c'=>qG A' (vR rs ss how).length c') (vt tA _ tc (vR rs ss how) w1 (jaL (hs.all 9 _ J).1) hoT)) ?_
               rintro⟨⟨oA,oc⟩,olo,ohi⟩ -
               refine n9 ?_;refine JU (u9 J) ?_;refine qd (i:=9) J Dc Kr J ?_;refine S1 ?_;refine JU (u9 J) ?_;refine JB Kr ?_;refine S1 ?_
               exact Ka h_15 ((((oA,oc),olo,ohi),b7)) (trivial) ⟨J,sz⟩ (fun _ h=>h.picks [2,10,8] Dc)
             ·refine aL (fun b8=> ?_);refine n9 ?_;refine JU (u9 J) ?_;refine qd (i:=5) J Dc Kr J ?_;refine JQ ve (v:=fun x:Option Addr×Nat=> .slice x.1 (KA rs ss how).length x.2) (r:=fun x=>JS 0 96 4 (KA rs ss how).length ((KA rs ss how).flatMap Je) x) (H:=fun _=>True) J J J (lb J) (fun w1 hs=>qI (wj (eA,ec) (fA,fc) (Jw (Y9 rs ss)) (Jw (yX rs ss)) how w1 (hs.all 5 _ J).1 (hs.all 6 _ J).1 hTw)) ?_
              rintro⟨bA,bc⟩ -
              refine n9 ?_;refine JU (u9 J) ?_;refine qd (i:=6) J Dc Kr J ?_;refine JQ KJ (X:= (Option Addr×Nat)×Nat×Nat) (v:=fun x=>qG x.1.1 (vR rs ss how).length x.1.2) (r:=fun x=>LQ x.2.1 x.2.2 (vR rs ss how).length (vR rs ss how) x.1.1) (H:=fun _=>True) J J J (lb J) (fun w1 hs=>O0 (V:=fun A' c'=>qG A' (vR rs ss how).length c') (Vx bA _ bc (KA rs ss how) w1 (vJ (k:=8) (x:= (bA,bc)) (ls:=KA rs ss how) J J w1 hs) (Z6 hTw) (My hTw hPr))) ?_
              rintro⟨⟨tA,tc⟩,tlo,thi⟩ -
              refine n9 ?_;refine JU (u9 J) ?_;refine qd (i:=7) J Dc Kr J ?_;refine JQ kS (X:= (Option Addr×Nat)×Nat×Nat) (v:=fun x=>qG x.1.1 (vR rs ss how).length x.1.2) (r:=fun x=>kx (vR rs ss how).length (Wq (vR rs ss how)) x.2.1 x.2.2 x.1.1) (H:=fun _=>True) J J J (lb J) (fun w1 hs=>K7 (V:=fun A' c'=>qG A' (vR rs ss how).length c') (vt tA _ tc (vR rs ss how) w1 (jaL (hs.all 9 _ J).1) hoT)) ?_
              rintro⟨⟨oA,oc⟩,olo,ohi⟩ -
              refine n9 ?_;refine JU (u9 J) ?_;refine qd (i:=9) J Dc Kr J ?_;refine S1 ?_;refine JU (u9 J) ?_;refine JB Kr ?_;refine S1 ?_
              exact Ka h_15 ((((oA,oc),olo,ohi),b8)) (trivial) ⟨J,sz⟩ (fun _ h=>h.picks [2,10,7] Dc)
            ·refine aL (fun b9=> ?_);refine n9 ?_;refine JU (u9 J) ?_;refine qd (i:=3) J Dc Kr J ?_;refine JQ Kq (v:=fun x:Option Addr×Nat=> .slice x.1 (Jw (yX rs ss)).length x.2) (r:=fun x=>JS 0 96 4 (Jw (yX rs ss)).length ((Jw (yX rs ss)).flatMap Je) x) (H:=fun _=>True) J J J (lb J) (fun w1 hs=>qI (Vn mA _ mc (yX rs ss) w1 (uO (hs.all 4 _ J).1).rings (jjs hs2 Dc))) ?_
             rintro⟨fA,fc⟩ -
             refine n9 ?_;refine JU (u9 J) ?_;refine qd (i:=5) J Dc Kr J ?_;refine JQ ve (v:=fun x:Option Addr×Nat=> .slice x.1 (KA rs ss how).length x.2) (r:=fun x=>JS 0 96 4 (KA rs ss how).length ((KA rs ss how).flatMap Je) x) (H:=fun _=>True) J J J (lb J) (fun w1 hs=>qI (wj (eA,ec) (fA,fc) (Jw (Y9 rs ss)) (Jw (yX rs ss)) how w1 (hs.all 5 _ J).1 (hs.all 7 _ J).1 hTw)) ?_
             rintro⟨bA,bc⟩ -
             refine n9 ?_;refine JU (u9 J) ?_;refine qd (i:=6) J Dc Kr J ?_;refine JQ KJ (X:= (Option Addr×Nat)×Nat×Nat) (v:=fun x=>qG x.1.1 (vR rs ss how).length x.1.2) (r:=fun x=>LQ x.2.1 x.2.2 (vR rs ss how).length (vR rs ss how) x.1.1) (H:=fun _=>True) J J J (lb J) (fun w1 hs=>O0 (V:=fun A' c'=>qG A' (vR rs ss how).length c') (Vx bA _ bc (KA rs ss how) w1 (vJ (k:=8) (x:= (bA,bc)) (ls:=KA rs ss how) J J w1 hs) (Z6 hTw) (My hTw hPr))) ?_
             rintro⟨⟨tA,tc⟩,tlo,thi⟩ -
             refine n9 ?_;refine JU (u9 J) ?_;refine qd (i:=7) J Dc Kr J ?_;refine JQ kS (X:= (Option Addr×Nat)×Nat×Nat) (v:=fun x=>qG x.1.1 (vR rs ss how).length x.1.2) (r:=fun x=>kx (vR rs ss how).length (Wq (vR rs ss how)) x.2.1 x.2.2 x.1.1) (H:=fun _=>True) J J J (lb J) (fun w1 hs=>K7 (V:=fun A' c'=>qG A' (vR rs ss how).length c') (vt tA _ tc (vR rs ss how) w1 (jaL (hs.all 9 _ J).1) hoT)) ?_
             rintro⟨⟨oA,oc⟩,olo,ohi⟩ -
             refine n9 ?_;refine JU (u9 J) ?_;refine qd (i:=9) J Dc Kr J ?_;refine S1 ?_;refine JU (u9 J) ?_;refine JB Kr ?_;refine S1 ?_
             exact Ka h_15 ((((oA,oc),olo,ohi),b9)) (trivial) ⟨J,sz⟩ (fun _ h=>h.picks [2,10,6] Dc)
           ·refine aL (fun b10=> ?_);refine n9 ?_;refine JU (u9 J) ?_;refine qd (i:=1) J Dc Kr J ?_;refine JQ Kq (v:=fun x:Option Addr×Nat=> .slice x.1 (Jw (Y9 rs ss)).length x.2) (r:=fun x=>JS 0 96 4 (Jw (Y9 rs ss)).length ((Jw (Y9 rs ss)).flatMap Je) x) (H:=fun _=>True) J J J (lb J) (fun w1 hs=>qI (Vn hA _ hc (Y9 rs ss) w1 (uO (hs.all 3 _ J).1).rings (jjs hs1 Dc))) ?_
            rintro⟨eA,ec⟩ -
            refine n9 ?_;refine JU (u9 J) ?_;refine qd (i:=3) J Dc Kr J ?_;refine JQ Kq (v:=fun x:Option Addr×Nat=> .slice x.1 (Jw (yX rs ss)).length x.2) (r:=fun x=>JS 0 96 4 (Jw (yX rs ss)).length ((Jw (yX rs ss)).flatMap Je) x) (H:=fun _=>True) J J J (lb J) (fun w1 hs=>qI (Vn mA _ mc (yX rs ss) w1 (uO (hs.all 4 _ J).1).rings (jjs hs2 Dc))) ?_
            rintro⟨fA,fc⟩ -
            refine n9 ?_;refine JU (u9 J) ?_;refine qd (i:=5) J Dc Kr J ?_;refine JQ ve (v:=fun x:Option Addr×Nat=> .slice x.1 (KA rs ss how).length x.2) (r:=fun x=>JS 0 96 4 (KA rs ss how).length ((KA rs ss how).flatMap Je) x) (H:=fun _=>True) J J J (lb J) (fun w1 hs=>qI (wj (eA,ec) (fA,fc) (Jw (Y9 rs ss)) (Jw (yX rs ss)) how w1 (hs.all 6 _ J).1 (hs.all 7 _ J).1 hTw)) ?_
            rintro⟨bA,bc⟩ -
            refine n9 ?_;refine JU (u9 J) ?_;refine qd (i:=6) J Dc Kr J ?_;refine JQ KJ (X:= (Option Addr×Nat)×Nat×Nat) (v:=fun x=>qG x.1.1 (vR rs ss how).length x.1.2) (r:=fun x=>LQ x.2.1 x.2.2 (vR rs ss how).length (vR rs ss how) x.1.1) (H:=fun _=>True) J J J (lb J) (fun w1 hs=>O0 (V:=fun A' c'=>qG A' (vR rs ss how).length c') (Vx bA _ bc (KA rs ss how) w1 (vJ (k:=8) (x:= (bA,bc)) (ls:=KA rs ss how) J J w1 hs) (Z6 hTw) (My hTw hPr))) ?_
            rintro⟨⟨tA,tc⟩,tlo,thi⟩ -
            refine n9 ?_;refine JU (u9 J) ?_;refine qd (i:=7) J Dc Kr J ?_;refine JQ kS (X:= (Option Addr×Nat)×Nat×Nat) (v:=fun x=>qG x.1.1 (vR rs ss how).length x.1.2) (r:=fun x=>kx (vR rs ss how).length (Wq (vR rs ss how)) x.2.1 x.2.2 x.1.1) (H:=fun _=>True) J J J (lb J) (fun w1 hs=>K7 (V:=fun A' c'=>qG A' (vR rs ss how).length c') (vt tA _ tc (vR rs ss how) w1 (jaL (hs.all 9 _ J).1) hoT)) ?_
            rintro⟨⟨oA,oc⟩,olo,ohi⟩ -
            refine n9 ?_;refine JU (u9 J) ?_;refine qd (i:=9) J Dc Kr J ?_;refine S1 ?_;refine JU (u9 J) ?_;refine JB Kr ?_;refine S1 ?_
            exact Ka h_15 ((((oA,oc),olo,ohi),b10)) (trivial) ⟨J,sz⟩ (fun _ h=>h.picks [2,10,5] Dc)
          ·rintro⟨⟨⟨oA,oc⟩,olo,ohi⟩,bo⟩ -
           refine v9 ?_;refine r9 ?_;refine S4 ?_;refine a9 (jG Kv J J (fun w1 hs=>wi oA _ oc (Wq (vR rs ss how)) w1 (uO (hs.all 1 _ J).1).rings (by have:=hoT.1;omega))) ?_;refine S2 ?_;refine cZ (fun c6=> ?_) (fun c6=> ?_)
           ·refine S2 ?_;refine a9 (JF J J (JJ)) ?_;refine S6 ?_;refine JX J (JZ (k:=0) J jE J J) (.tmp J) ?_
            intro w' hs
            obtain ⟨f1,f2⟩ :=jgm c6
            exact⟨none,0,by rw [f1,f2];rfl,by rw [f1];exact OwnG.nil none,hs.fin⟩
           ·refine S10 ?_;refine JX J (JZ (k:=0) J jE J J) (.tmp J) ?_
            intro w' hs
            obtain ⟨f1,f2⟩ :=jer c6
            have hg:=hs.all 1 _ rfl
            have ho:=UW hg.1 (fun b hb=> (hg.2.1 b hb).elim id (fun h=>by cases h))
            exact⟨oA,oc,by rw [f1,f2,ON],by rw [f1,ON];exact ho,hs.fin⟩
end Go.Proofs.YtbahojdbmmjkcaaGreat
