import Derived.Test.YtbahojdbmmjkcaaGreatMFit
set_option linter.unusedVariables false
set_option linter.unusedSimpArgs false
namespace Go.Proofs.YtbahojdbmmjkcaaGreat
open Go Go.RowKit
variable {A:Option Addr} {V:Option Addr→Nat→Value} {args:Array Value} {how:Int} {rs ss:List jO}
set_option maxRecDepth 100000
set_option maxHeartbeats 4000000
theorem Bv {P:Program} {f:FuncId} {w1:World} {n:Nat} (h:Calls P f args w1 fun e w'=>∃A c,e= .returned (V A c)∧OwnG w1.heap.size w'.heap.size w' A n rs∧(Mw w1.heap.size w'.heap.size n rs A).P w'∧Over w1 w') :
  Calls P f args w1 fun e w'=>∃x: (Option Addr×Nat)×Nat×Nat,e= .returned (V x.1.1 x.1.2)∧Over w1 w'∧(Mw x.2.1 x.2.2 n rs x.1.1).P w'∧(∀b,(Mw x.2.1 x.2.2 n rs x.1.1).F b→w1.heap.size≤b)∧(Mw x.2.1 x.2.2 n rs x.1.1).B=0∧True:=by
 refine h.mono ?_
 rintro e w' ⟨A,c,rfl,ho,hc,hO⟩
 exact⟨((A,c),w1.heap.size,w'.heap.size),rfl,hO,hc,fun b hb=>hb.1,sz⟩
theorem jaY {lo hi n:Nat} {w:World} (h: (Mw lo hi n rs A).P w) :RingsC w A n rs:=h.2 w h.1 fun _ _ _=>rfl
theorem jb2 (h: (!YI rs ss) =true) :kS rs ss how= []∧uY rs ss how=1:=by
 rw [jj9] at h
 simp [kS,uY,h]
theorem jb3 (h:YI rs ss=true) (h2: (!Zj how) =true) :kS rs ss how= []∧uY rs ss how=2:=by
 rw [jj9] at h2
 simp [kS,uY,h,h2]
theorem jgz (h:YI rs ss=true) (h2:Zj how=true) :kS rs ss how=RB rs ss how∧uY rs ss how=Co rs ss how:=by
 simp [kS,uY,h,h2]
theorem MD (h:UY rs ss=false) :RB rs ss how= []∧Co rs ss how=5:=by simp [RB,Co,h]
theorem jcb (h:UY rs ss=true) :RB rs ss how=Zf (vw (vJ rs ss how))∧Co rs ss how=Ze (vw (vJ rs ss how)) :=by simp [RB,Co,h]
theorem jhe (h:Jp rs=false) :Zf rs= []∧Ze rs=5:=by simp [Zf,Ze,h]
theorem jfc (h:Jp rs=true) :Zf rs=rs∧Ze rs=0:=by simp [Zf,Ze,h]
theorem CA (h:¬(jt rs++jt ss).length≤400) :UY rs ss=false:=by simp only [UY,decide_eq_false h,jjU]
theorem jcu (h: (wD rs ss&&WV rs ss) =false) :UY rs ss=false:=by rw [UY,h,jkW]
theorem jct (hl: (jt rs++jt ss).length≤400) (h: (wD rs ss&&WV rs ss) =true) :UY rs ss=true:=by rw [UY,h,Bool.and_true,decide_eq_true hl]
theorem Vh (A:Option Addr) (n c:Nat) (rs:List jO) (A2:Option Addr) (n2 c2_:Nat) (ss:List jO) (how:Int) (w:World) (h:Rings w A n rs) (hm: (n:Int)≤9223372036854775807) (h2:Rings w A2 n2 ss) (hm2: (n2:Int)≤9223372036854775807) :
  Calls Tryz.prog 14 #[qr A n c,qr A2 n2 c2_, .int .i64 how] w fun e w'=>∃A' c',e= .returned (.tuple #[qr A' (kS rs ss how).length c', .int .i64 (uY rs ss how)])∧OwnG w.heap.size w'.heap.size w' A' (kS rs ss how).length (kS rs ss how)∧Over w w':=by
 have hl:=h.1
 have hl2:=h2.1
 refine j6 (m:=78) (Tryz.func14) J J (lb J) ?_;refine S3 ?_;refine aX (fun b1=> ?_);refine N1 ?_;refine aX (fun b2=> ?_);refine N1 ?_;refine aL (fun b3=> ?_);refine N3 ?_;refine qt [(20, .bool (!YI rs ss))] (kK [2,3,4,6,7]) (fun L h_1=> ?_) ?_
 ·refine S2 ?_;refine a9 (jM vL J J (fun w1 hs=>Wh A n c rs w1 (h.over hs.fin) hm)) ?_;refine S2 ?_;refine cV 16 (fun g1=> ?_) (fun g1=> ?_)
  ·refine S5 ?_
   exact Jo h_1 ⟨vb (by rw [YI,g1];rfl),sz⟩ (u9 J)
  ·refine S3 ?_;refine o9 (jM vL J J (fun w1 hs=>Wh A2 n2 c2_ ss w1 (h2.over hs.fin) hm2)) ?_;refine S4 ?_
   exact Jo h_1 ⟨vb (by rw [YI,g1];rfl),sz⟩ (u9 J)
 ·refine v9 ?_;refine cZ (fun c1=> ?_) (fun c1=> ?_)
  ·refine S2 ?_;refine a9 (JR J J (J9)) ?_;refine S6 ?_;refine qh J (J8 (k:=2) J jv J J) (.tmp J) ?_
   intro w' hs
   obtain ⟨e1,e2⟩ :=jb2 (how:=how) (by simpa using c1)
   exact⟨none,0,by rw [e1,e2];rfl,by rw [e1];exact OwnG.nil none,hs.fin⟩
  ·have hin:YI rs ss=true:= (by simpa using c1)
   refine S3 ?_;refine qt [(27, .bool (!Zj how))] (kK [2,3,4,6,7]) (fun L h_3=> ?_) ?_
   ·refine S4 ?_;refine cV 24 (fun g2=> ?_) (fun g2=> ?_)
    ·refine S4 ?_
     exact Jo h_3 ⟨vb (by rw [Zj,decide_eq_false (show¬1≤how by omega)];rfl),sz⟩ (u9 J)
    ·refine S6 ?_
     exact Jo h_3 ⟨vb (by rw [Zj,decide_eq_true (show 1≤how by omega),jjG,jjT];simp),sz⟩ (u9 J)
   ·refine v9 ?_;refine cZ (fun c2=> ?_) (fun c2=> ?_)
    ·refine S2 ?_;refine a9 (JR J J (J9)) ?_;refine S6 ?_;refine qh J (J8 (k:=2) J jv J J) (.tmp J) ?_
     intro w' hs
     obtain ⟨e1,e2⟩ :=jb3 (how:=how) hin (by simpa using c2)
     exact⟨none,0,by rw [e1,e2];rfl,by rw [e1];exact OwnG.nil none,hs.fin⟩
    ·obtain ⟨e1,e2⟩ :=jgz (how:=how) hin (by simpa using c2)
     rw [e1,e2]
     have hr:Jp rs=true:= (by have:=hin;rw [YI,jjl] at this;exact this.1)
     have hr2:Jp ss=true:= (by have:=hin;rw [YI,jjl] at this;exact this.2)
     have hb1:=UV hr
     have hb2:=UV hr2
     have ht1:= (smallR.of hb1).total
     have ht2:= (smallR.of hb2).total
     have eb1:=kz hr
     have eb2:=kz hr2
     have hE1:=YY hr
     have hE2:=YY hr2
     refine S2 ?_;refine UC (X:= ((Option Addr×Nat)×Nat×Nat)×((Option Addr×Nat)×Nat×Nat)) (fun x=>True) (fun x=> []) (kK [2,3,4,6,7]) (fun x=> [.cel b1 26 [.slice x.1.1.1 (JO rs).length x.1.1.2], .cel b2 26 [.slice x.2.1.1 (JO ss).length x.2.1.2], .cel b3 26 [.slice none 0 0],kI (JO rs).length (JO rs) x.1.2.1 x.1.2.2 x.1.1.1,kI (JO ss).length (JO ss) x.2.2.1 x.2.2.2 x.2.1.1]) (fun L h_5=> ?_) ?_
     ·refine S1 ?_;refine JS 4 ?_;refine dK 0 ?_;refine dV 2 [3] ?_;refine J7 (i:=1) J Dc Kr J ?_;refine JU Uw (X:= (Option Addr×Nat)×Nat×Nat) (v:=fun x=>qr x.1.1 (JO rs).length x.1.2) (r:=fun x=>kI (JO rs).length (JO rs) x.2.1 x.2.2 x.1.1) (H:=fun _=>True) J J J (lb J) (fun w1 hs=>Q6 (zh A n c rs w1 (h.over hs.fin) hr)) ?_
      rintro⟨⟨gA,gc⟩,glo,ghi⟩ -
      refine n9 ?_;refine UD (u9 J) ?_;refine J7 (i:=3) J Dc Kr J ?_;refine JU Uw (X:= (Option Addr×Nat)×Nat×Nat) (v:=fun x=>qr x.1.1 (JO ss).length x.1.2) (r:=fun x=>kI (JO ss).length (JO ss) x.2.1 x.2.2 x.1.1) (H:=fun _=>True) J J J (lb J) (fun w1 hs=>Q6 (zh A2 n2 c2_ ss w1 (h2.over hs.fin) hr2)) ?_
      rintro⟨⟨kA,kc⟩,klo,khi⟩ -
      refine n9 ?_;refine UD (u9 J) ?_;refine KV J Kr J ?_;refine S1 ?_;refine Qv 6 [1] ?_;refine J7 (i:=5) J Dc Kr J ?_;refine S1 ?_;refine JN (uw [1] J) ?_;refine JJ Kr ?_;refine S1 ?_
      exact ka h_5 ((((gA,gc),glo,ghi),((kA,kc),klo,khi))) (trivial) ⟨J,sz⟩ (fun _ h=>h.picks [0,1,2,3,4] Dc)
     ·rintro⟨⟨⟨gA,gc⟩,glo,ghi⟩,⟨⟨kA,kc⟩,klo,khi⟩⟩ -
      refine v9 ?_;refine r9 ?_;refine UC (X:=Option Addr×Nat) (fun x=>True) (fun x=> [(8, .slice x.1 (D1 rs ss).length x.2)]) (kK [2,3,4,6,7]) (fun x=> [.cel b1 26 [.slice gA (JO rs).length gc], .cel b2 26 [.slice kA (JO ss).length kc], .cel b3 26 [.slice none 0 0],kI (JO rs).length (JO rs) glo ghi gA,kI (JO ss).length (JO ss) klo khi kA,J3 0 96 4 (D1 rs ss).length ((D1 rs ss).flatMap Ji) x]) (fun L h_6=> ?_) ?_
      ·refine S1 ?_;refine JS 7 ?_;refine dK 0 ?_;refine dK 2 ?_;refine J7 (i:=1) J Dc Kr J ?_;refine JU KA (v:=fun x:Option Addr×Nat=> .slice x.1 (jt rs).length x.2) (r:=fun x=>J3 0 96 4 (jt rs).length ((jt rs).flatMap Ji) x) (H:=fun _=>True) J J J (lb J) (fun w1 hs=>Qf (by rw [←eb1];exact wa gA _ gc (JO rs) w1 (UE (hs.all 3 _ J).1).rings Om)) ?_
       rintro⟨eA,ec⟩ -
       refine n9 ?_;refine UD (u9 J) ?_;refine J7 (i:=3) J Dc Kr J ?_;refine JU KA (v:=fun x:Option Addr×Nat=> .slice x.1 (jt ss).length x.2) (r:=fun x=>J3 0 96 4 (jt ss).length ((jt ss).flatMap Ji) x) (H:=fun _=>True) J J J (lb J) (fun w1 hs=>Qf (by rw [←eb2];exact wa kA _ kc (JO ss) w1 (UE (hs.all 4 _ J).1).rings Om)) ?_
       rintro⟨fA,fc⟩ -
       refine n9 ?_;refine UD (u9 J) ?_;refine J7 (i:=4) J Dc Kr J ?_;refine Jy J J (wX J J) J (lb J) (fun b4=> ?_);refine n9 ?_;refine JN (u9 J) ?_;refine J7 (i:=5) J Dc Kr J ?_;refine JU Kp (v:=fun x:Option Addr×Nat=> .slice x.1 (D1 rs ss).length x.2) (r:=fun x=>J3 0 96 4 (D1 rs ss).length ((D1 rs ss).flatMap Ji) x) (H:=fun _=>True) J J J (lb J) (fun w1 hs=>Qf (Cp (hs.cel (k:=7) J) (x1:= (eA,ec)) (x2:= (fA,fc)) (E1:=jt rs) (E2:=jt ss) (hs.all 5 _ J).1 (hs.all 6 _ J).1 Om)) ?_
       rintro⟨lA_,lc⟩ -
       refine n9 ?_;refine JN (u9 J) ?_;refine dK 6 ?_;refine JJ Kr ?_;refine S1 ?_
       exact ka h_6 ((lA_,lc)) (trivial) ⟨J,sz⟩ (fun _ h=>h.picks [0,1,2,3,4,8] Dc)
      ·rintro⟨lA_,lc⟩ -
       refine v9 ?_;refine r9 ?_;refine S7 ?_;refine cZ (fun c3=> ?_) (fun c3=> ?_)
       ·refine S2 ?_;refine a9 (JR J J (J9)) ?_;refine S6 ?_;refine qh J (J8 (k:=2) J jv J J) (.tmp J) ?_
        intro w' hs
        have hno:=CA (rs:=rs) (ss:=ss) (show¬(D1 rs ss).length≤400 by omega)
        obtain ⟨e3,e4⟩ :=MD (how:=how) hno
        exact⟨none,0,by rw [e3,e4];rfl,by rw [e3];exact OwnG.nil none,hs.fin⟩
       ·have h4: (D1 rs ss).length≤400:=Om
        have hC:CmOk rs ss:=⟨hr,hr2,h4⟩
        have hk:=hC.hot1
        have hk2:=hC.hot2
        refine S6 ?_;refine JU Gj (v:=fun x:Option Addr×Nat=> .slice x.1 (Wl rs ss).length x.2) (r:=fun x=>J3 0 28 2 (Wl rs ss).length ((Wl rs ss).flatMap Jr) x) (H:=fun _=>True) J J J (lb J) (fun w1 hs=>Qf (Dq lA_ _ lc (D1 rs ss) w1 (Vr (k:=5) (x:= (lA_,lc)) (ls:=D1 rs ss) J J w1 hs) hC.legs h4 (Uo (hs.all 5 _ J).1))) ?_
        rintro⟨pA,pc⟩ -
        refine N7 ?_;refine qN (k:=3) (X:= (Option Addr×Nat)×Nat×Nat) (v:=fun x=> .tuple #[qr x.1.1 (V4 rs ss).length x.1.2, .int .i64 (Rl (Wl rs ss) (JO rs)), .int .i64 (if wD rs ss=true then 0 else 5)]) (r':=fun x=>kI (V4 rs ss).length (V4 rs ss) x.2.1 x.2.2 x.1.1) U6 J J J Dc J (fun w1 hs=>jcx (A:=gA) (c:=gc) (V:=fun A' c'=> .tuple #[qr A' (V4 rs ss).length c', .int .i64 (Rl (Wl rs ss) (JO rs)), .int .i64 (if wD rs ss=true then 0 else 5)]) (hs.all 3 _ J).1 J (ZI gA _ gc (JO rs) pA (Wl rs ss).length pc (Wl rs ss) w1 (UE (hs.all 3 _ J).1).rings hk.reg (ub (hs.all 6 _ J).1 J) hk.len (Uo (hs.all 6 _ J).1) hk.ok hk.asc hk.nd hk.bare)) ?_
        rintro⟨⟨hA,hc⟩,hlo,hhi⟩
        refine N9 ?_;refine UC (X:=List jO×(Option Addr×Nat)×Nat×Nat) (fun x=> (wD rs ss&&WV rs ss) =true→x.1=VP rs ss) (fun x=> [(11, .int .i64 (if(wD rs ss&&WV rs ss) =true then 0 else 5))]) (kK [2,3,4,6,7]) (fun x=> [.cel b1 26 [.slice hA (V4 rs ss).length hc], .cel b2 26 [.slice x.2.1.1 x.1.length x.2.1.2], .cel b3 26 [.slice none 0 0],kI (V4 rs ss).length (V4 rs ss) hlo hhi hA,kI x.1.length x.1 x.2.2.1 x.2.2.2 x.2.1.1]) (fun L h_t53=> ?_) ?_
        ·refine S5 ?_;refine cZ (fun c4=> ?_) (fun c4=> ?_)
         ·have hOa:wD rs ss=true:= (by cases k:wD rs ss<;>simp_all)
          refine S4 ?_;refine qN (k:=4) (X:= (Option Addr×Nat)×Nat×Nat) (v:=fun x=> .tuple #[qr x.1.1 (VP rs ss).length x.1.2, .int .i64 (Rl (Wl rs ss) (JO ss)), .int .i64 (if WV rs ss=true then 0 else 5)]) (r':=fun x=>kI (VP rs ss).length (VP rs ss) x.2.1 x.2.2 x.1.1) U6 J J J Dc J (fun w1 hs=>jcx (A:=kA) (c:=kc) (V:=fun A' c'=> .tuple #[qr A' (VP rs ss).length c', .int .i64 (Rl (Wl rs ss) (JO ss)), .int .i64 (if WV rs ss=true then 0 else 5)]) (hs.all 4 _ J).1 J (ZI kA _ kc (JO ss) pA (Wl rs ss).length pc (Wl rs ss) w1 (UE (hs.all 4 _ J).1).rings hk2.reg (ub (hs.all 6 _ J).1 J) hk2.len (Uo (hs.all 6 _ J).1) hk2.ok hk2.asc hk2.nd hk2.bare)) ?_
          rintro⟨⟨mA,mc⟩,mlo,mhi⟩
          refine N8 ?_
          exact ka h_t53 ((VP rs ss,(mA,mc),mlo,mhi)) (fun _=>rfl) ⟨by rw [hOa,jjG];rfl,sz⟩ (fun _ h=> (h.picks [0,1,2,3,4] Dc).upto ⟨J,sz⟩)
         ·have hOa:wD rs ss=false:= (by cases k:wD rs ss<;>simp_all)
          refine S2 ?_
          exact ka h_t53 ((JO ss,(kA,kc),klo,khi)) (fun h=>by rw [hOa] at h;cases h) ⟨by rw [hOa];rfl,sz⟩ (fun _ h=> (h.picks [0,1,2,3,4] Dc).upto ⟨rfl,sz⟩)
        ·rintro⟨bs,⟨mA,mc⟩,mlo,mhi⟩ hbs
         refine v9 ?_;refine r9 ?_;refine S6 ?_;refine cZ (fun c5=> ?_) (fun c5=> ?_)
         ·refine S2 ?_;refine a9 (JR J J (J9)) ?_;refine S7 ?_;refine qh J (J8 (k:=2) J jv J J) (.tmp J) ?_
          intro w' hs
          have hO: (wD rs ss&&WV rs ss) =false:= (by cases k: (wD rs ss&&WV rs ss) <;>simp_all)
          obtain ⟨e3,e4⟩ :=MD (how:=how) (jcu hO)
          exact⟨none,0,by rw [e3,e4,hO];rfl,by rw [e3];exact OwnG.nil none,hs.fin⟩
         ·have hO: (wD rs ss&&WV rs ss) =true:= (by cases k: (wD rs ss&&WV rs ss) <;>simp_all)
          obtain rfl:bs=VP rs ss:=hbs hO
          have hO1:wD rs ss=true:= (by rw [jjl] at hO;exact hO.1)
          have hO2:WV rs ss=true:= (by rw [jjl] at hO;exact hO.2)
          have hg1:= (ZK hk hO1).1
          have hg2:= (ZK hk2 hO2).1
          have hs1:= (smallR.of hg1).total
          have hs2:= (smallR.of hg2).total
          have hTw:=hC.two hO1 hO2
          have hPr:=hC.pair hO1 hO2
          have hoT:=hC.okT hO1 hO2 how
          obtain ⟨e3,e4⟩ :=jcb (how:=how) (jct h4 hO)
          rw [e3,e4]
          refine S2 ?_;refine UC (X:= ((Option Addr×Nat)×Nat×Nat)×Nat) (fun x=>True) (fun x=> [(12, .pointer (some ⟨x.2,0,none⟩))]) (kK [6,7]) (fun x=> [.cel b3 26 [.slice none 0 0],kI (vJ rs ss how).length (vw (vJ rs ss how)) x.1.2.1 x.1.2.2 x.1.1.1, .cel x.2 26 [.slice x.1.1.1 (vJ rs ss how).length x.1.1.2]]) (fun L h_15=> ?_) ?_
          ·refine S1 ?_;refine JS 10 ?_;refine dK 0 ?_;refine dK 2 ?_;refine dK 4 ?_;refine Ou (i:=1) (j:=8) J J Dc Dc Kr J J ?_ ?_
           ·refine JU KA (v:=fun x:Option Addr×Nat=> .slice x.1 (jt (V4 rs ss)).length x.2) (r:=fun x=>J3 0 96 4 (jt (V4 rs ss)).length ((jt (V4 rs ss)).flatMap Ji) x) (H:=fun _=>True) J J J (lb J) (fun w1 hs=>Qf (wa hA _ hc (V4 rs ss) w1 (UE (hs.all 3 _ J).1).rings (jkF hs1 Dc))) ?_
            rintro⟨eA,ec⟩ -
            refine n9 ?_;refine JN (u9 J) ?_;refine Ou (i:=3) (j:=8) J J Dc Dc Kr J J ?_ ?_
            ·refine JU KA (v:=fun x:Option Addr×Nat=> .slice x.1 (jt (VP rs ss)).length x.2) (r:=fun x=>J3 0 96 4 (jt (VP rs ss)).length ((jt (VP rs ss)).flatMap Ji) x) (H:=fun _=>True) J J J (lb J) (fun w1 hs=>Qf (wa mA _ mc (VP rs ss) w1 (UE (hs.all 4 _ J).1).rings (jkF hs2 Dc))) ?_
             rintro⟨fA,fc⟩ -
             refine n9 ?_;refine JN (u9 J) ?_;refine Ou (i:=5) (j:=8) J J Dc Dc Kr J J ?_ ?_
             ·refine JU vM (v:=fun x:Option Addr×Nat=> .slice x.1 (Qp rs ss how).length x.2) (r:=fun x=>J3 0 96 4 (Qp rs ss how).length ((Qp rs ss how).flatMap Ji) x) (H:=fun _=>True) J J J (lb J) (fun w1 hs=>Qf (Wj (eA,ec) (fA,fc) (jt (V4 rs ss)) (jt (VP rs ss)) how w1 (hs.all 5 _ J).1 (hs.all 6 _ J).1 hTw)) ?_
              rintro⟨bA,bc⟩ -
              refine n9 ?_;refine JN (u9 J) ?_;refine Ou (i:=6) (j:=8) J J Dc Dc Kr J J ?_ ?_
              ·refine JU K0 (X:= (Option Addr×Nat)×Nat×Nat) (v:=fun x=>qr x.1.1 (vJ rs ss how).length x.1.2) (r:=fun x=>Mw x.2.1 x.2.2 (vJ rs ss how).length (vJ rs ss how) x.1.1) (H:=fun _=>True) J J J (lb J) (fun w1 hs=>Bv (V:=fun A' c'=>qr A' (vJ rs ss how).length c') (wo bA _ bc (Qp rs ss how) w1 (Vr (k:=7) (x:= (bA,bc)) (ls:=Qp rs ss how) J J w1 hs) (xJ hTw) (Og hTw hPr))) ?_
               rintro⟨⟨tA,tc⟩,tlo,thi⟩ -
               refine n9 ?_;refine JN (u9 J) ?_;refine Ou (i:=7) (j:=8) J J Dc Dc Kr J J ?_ ?_
               ·refine JU kT (X:= (Option Addr×Nat)×Nat×Nat) (v:=fun x=>qr x.1.1 (vJ rs ss how).length x.1.2) (r:=fun x=>kI (vJ rs ss how).length (vw (vJ rs ss how)) x.2.1 x.2.2 x.1.1) (H:=fun _=>True) J J J (lb J) (fun w1 hs=>Q6 (V:=fun A' c'=>qr A' (vJ rs ss how).length c') (vW tA _ tc (vJ rs ss how) w1 (jaY (hs.all 8 _ J).1) hoT)) ?_
                rintro⟨⟨oA,oc⟩,olo,ohi⟩ -
                refine n9 ?_;refine JN (u9 J) ?_;refine J7 (i:=8) J Dc Kr J ?_;refine aL (fun b5=> ?_);refine n9 ?_;refine JN (u9 J) ?_;refine J7 (i:=9) J Dc Kr J ?_;refine j9 10 jq.szx ?_;refine n9 ?_;refine JN (u9 J) ?_;refine JJ Kr ?_;refine S1 ?_
                exact ka h_15 ((((oA,oc),olo,ohi),b5)) (trivial) ⟨J,sz⟩ (fun _ h=>h.picks [2,9,10] Dc)
               ·refine aL (fun b6=> ?_);refine n9 ?_;refine JN (u9 J) ?_;refine J7 (i:=7) J Dc Kr J ?_;refine JU kT (X:= (Option Addr×Nat)×Nat×Nat) (v:=fun x=>qr x.1.1 (vJ rs ss how).length x.1.2) (r:=fun x=>kI (vJ rs ss how).length (vw (vJ rs ss how)) x.2.1 x.2.2 x.1.1) (H:=fun _=>True) J J J (lb J) (fun w1 hs=>Q6 (V:=fun A' c'=>qr A' (vJ rs ss how).length c') (vW tA _ tc (vJ rs ss how) w1 (jaY (hs.all 8 _ J).1) hoT)) ?_
                rintro⟨⟨oA,oc⟩,olo,ohi⟩ -
                refine n9 ?_;refine JN (u9 J) ?_;refine J7 (i:=9) J Dc Kr J ?_;refine S1 ?_;refine JN (u9 J) ?_;refine JJ Kr ?_;refine S1 ?_
                exact ka h_15 ((((oA,oc),olo,ohi),b6)) (trivial) ⟨J,sz⟩ (fun _ h=>h.picks [2,10,9] Dc)
              ·refine aL (fun b7=> ?_);refine n9 ?_;refine JN (u9 J) ?_;refine J7 (i:=6) J Dc Kr J ?_;refine JU K0 (X:= (Option Addr×Nat)×Nat×Nat) (v:=fun x=>qr x.1.1 (vJ rs ss how).length x.1.2) (r:=fun x=>Mw x.2.1 x.2.2 (vJ rs ss how).length (vJ rs ss how) x.1.1) (H:=fun _=>True) J J J (lb J) (fun w1 hs=>Bv (V:=fun A' c'=>qr A' (vJ rs ss how).length c') (wo bA _ bc (Qp rs ss how) w1 (Vr (k:=7) (x:= (bA,bc)) (ls:=Qp rs ss how) J J w1 hs) (xJ hTw) (Og hTw hPr))) ?_
               rintro⟨⟨tA,tc⟩,tlo,thi⟩ -
               refine n9 ?_;refine JN (u9 J) ?_;refine J7 (i:=7) J Dc Kr J ?_;refine JU kT (X:= (Option Addr×Nat)×Nat×Nat) (v:=fun x=>qr x.1.1 (vJ rs ss how).length x.1.2) (r:=fun x=>kI (vJ rs ss how).length (vw (vJ rs ss how)) x.2.1 x.2.2 x.1.1) (H:=fun _=>True) J J J (lb J) (fun w1 hs=>Q6 (V:=fun A' c'=>qr A' (vJ rs ss how).length c') (vW tA _ tc (vJ rs ss how) w1 (jaY (hs.all 9 _ J).1) hoT)) ?_
               rintro⟨⟨oA,oc⟩,olo,ohi⟩ -
               refine n9 ?_;refine JN (u9 J) ?_;refine J7 (i:=9) J Dc Kr J ?_;refine S1 ?_;refine JN (u9 J) ?_;refine JJ Kr ?_;refine S1 ?_
               exact ka h_15 ((((oA,oc),olo,ohi),b7)) (trivial) ⟨J,sz⟩ (fun _ h=>h.picks [2,10,8] Dc)
             ·refine aL (fun b8=> ?_);refine n9 ?_;refine JN (u9 J) ?_;refine J7 (i:=5) J Dc Kr J ?_;refine JU vM (v:=fun x:Option Addr×Nat=> .slice x.1 (Qp rs ss how).length x.2) (r:=fun x=>J3 0 96 4 (Qp rs ss how).length ((Qp rs ss how).flatMap Ji) x) (H:=fun _=>True) J J J (lb J) (fun w1 hs=>Qf (Wj (eA,ec) (fA,fc) (jt (V4 rs ss)) (jt (VP rs ss)) how w1 (hs.all 5 _ J).1 (hs.all 6 _ J).1 hTw)) ?_
              rintro⟨bA,bc⟩ -
              refine n9 ?_;refine JN (u9 J) ?_;refine J7 (i:=6) J Dc Kr J ?_;refine JU K0 (X:= (Option Addr×Nat)×Nat×Nat) (v:=fun x=>qr x.1.1 (vJ rs ss how).length x.1.2) (r:=fun x=>Mw x.2.1 x.2.2 (vJ rs ss how).length (vJ rs ss how) x.1.1) (H:=fun _=>True) J J J (lb J) (fun w1 hs=>Bv (V:=fun A' c'=>qr A' (vJ rs ss how).length c') (wo bA _ bc (Qp rs ss how) w1 (Vr (k:=8) (x:= (bA,bc)) (ls:=Qp rs ss how) J J w1 hs) (xJ hTw) (Og hTw hPr))) ?_
              rintro⟨⟨tA,tc⟩,tlo,thi⟩ -
              refine n9 ?_;refine JN (u9 J) ?_;refine J7 (i:=7) J Dc Kr J ?_;refine JU kT (X:= (Option Addr×Nat)×Nat×Nat) (v:=fun x=>qr x.1.1 (vJ rs ss how).length x.1.2) (r:=fun x=>kI (vJ rs ss how).length (vw (vJ rs ss how)) x.2.1 x.2.2 x.1.1) (H:=fun _=>True) J J J (lb J) (fun w1 hs=>Q6 (V:=fun A' c'=>qr A' (vJ rs ss how).length c') (vW tA _ tc (vJ rs ss how) w1 (jaY (hs.all 9 _ J).1) hoT)) ?_
              rintro⟨⟨oA,oc⟩,olo,ohi⟩ -
              refine n9 ?_;refine JN (u9 J) ?_;refine J7 (i:=9) J Dc Kr J ?_;refine S1 ?_;refine JN (u9 J) ?_;refine JJ Kr ?_;refine S1 ?_
              exact ka h_15 ((((oA,oc),olo,ohi),b8)) (trivial) ⟨J,sz⟩ (fun _ h=>h.picks [2,10,7] Dc)
            ·refine aL (fun b9=> ?_);refine n9 ?_;refine JN (u9 J) ?_;refine J7 (i:=3) J Dc Kr J ?_;refine JU KA (v:=fun x:Option Addr×Nat=> .slice x.1 (jt (VP rs ss)).length x.2) (r:=fun x=>J3 0 96 4 (jt (VP rs ss)).length ((jt (VP rs ss)).flatMap Ji) x) (H:=fun _=>True) J J J (lb J) (fun w1 hs=>Qf (wa mA _ mc (VP rs ss) w1 (UE (hs.all 4 _ J).1).rings (jkF hs2 Dc))) ?_
             rintro⟨fA,fc⟩ -
             refine n9 ?_;refine JN (u9 J) ?_;refine J7 (i:=5) J Dc Kr J ?_;refine JU vM (v:=fun x:Option Addr×Nat=> .slice x.1 (Qp rs ss how).length x.2) (r:=fun x=>J3 0 96 4 (Qp rs ss how).length ((Qp rs ss how).flatMap Ji) x) (H:=fun _=>True) J J J (lb J) (fun w1 hs=>Qf (Wj (eA,ec) (fA,fc) (jt (V4 rs ss)) (jt (VP rs ss)) how w1 (hs.all 5 _ J).1 (hs.all 7 _ J).1 hTw)) ?_
             rintro⟨bA,bc⟩ -
             refine n9 ?_;refine JN (u9 J) ?_;refine J7 (i:=6) J Dc Kr J ?_;refine JU K0 (X:= (Option Addr×Nat)×Nat×Nat) (v:=fun x=>qr x.1.1 (vJ rs ss how).length x.1.2) (r:=fun x=>Mw x.2.1 x.2.2 (vJ rs ss how).length (vJ rs ss how) x.1.1) (H:=fun _=>True) J J J (lb J) (fun w1 hs=>Bv (V:=fun A' c'=>qr A' (vJ rs ss how).length c') (wo bA _ bc (Qp rs ss how) w1 (Vr (k:=8) (x:= (bA,bc)) (ls:=Qp rs ss how) J J w1 hs) (xJ hTw) (Og hTw hPr))) ?_
             rintro⟨⟨tA,tc⟩,tlo,thi⟩ -
             refine n9 ?_;refine JN (u9 J) ?_;refine J7 (i:=7) J Dc Kr J ?_;refine JU kT (X:= (Option Addr×Nat)×Nat×Nat) (v:=fun x=>qr x.1.1 (vJ rs ss how).length x.1.2) (r:=fun x=>kI (vJ rs ss how).length (vw (vJ rs ss how)) x.2.1 x.2.2 x.1.1) (H:=fun _=>True) J J J (lb J) (fun w1 hs=>Q6 (V:=fun A' c'=>qr A' (vJ rs ss how).length c') (vW tA _ tc (vJ rs ss how) w1 (jaY (hs.all 9 _ J).1) hoT)) ?_
             rintro⟨⟨oA,oc⟩,olo,ohi⟩ -
             refine n9 ?_;refine JN (u9 J) ?_;refine J7 (i:=9) J Dc Kr J ?_;refine S1 ?_;refine JN (u9 J) ?_;refine JJ Kr ?_;refine S1 ?_
             exact ka h_15 ((((oA,oc),olo,ohi),b9)) (trivial) ⟨J,sz⟩ (fun _ h=>h.picks [2,10,6] Dc)
           ·refine aL (fun b10=> ?_);refine n9 ?_;refine JN (u9 J) ?_;refine J7 (i:=1) J Dc Kr J ?_;refine JU KA (v:=fun x:Option Addr×Nat=> .slice x.1 (jt (V4 rs ss)).length x.2) (r:=fun x=>J3 0 96 4 (jt (V4 rs ss)).length ((jt (V4 rs ss)).flatMap Ji) x) (H:=fun _=>True) J J J (lb J) (fun w1 hs=>Qf (wa hA _ hc (V4 rs ss) w1 (UE (hs.all 3 _ J).1).rings (jkF hs1 Dc))) ?_
            rintro⟨eA,ec⟩ -
            refine n9 ?_;refine JN (u9 J) ?_;refine J7 (i:=3) J Dc Kr J ?_;refine JU KA (v:=fun x:Option Addr×Nat=> .slice x.1 (jt (VP rs ss)).length x.2) (r:=fun x=>J3 0 96 4 (jt (VP rs ss)).length ((jt (VP rs ss)).flatMap Ji) x) (H:=fun _=>True) J J J (lb J) (fun w1 hs=>Qf (wa mA _ mc (VP rs ss) w1 (UE (hs.all 4 _ J).1).rings (jkF hs2 Dc))) ?_
            rintro⟨fA,fc⟩ -
            refine n9 ?_;refine JN (u9 J) ?_;refine J7 (i:=5) J Dc Kr J ?_;refine JU vM (v:=fun x:Option Addr×Nat=> .slice x.1 (Qp rs ss how).length x.2) (r:=fun x=>J3 0 96 4 (Qp rs ss how).length ((Qp rs ss how).flatMap Ji) x) (H:=fun _=>True) J J J (lb J) (fun w1 hs=>Qf (Wj (eA,ec) (fA,fc) (jt (V4 rs ss)) (jt (VP rs ss)) how w1 (hs.all 6 _ J).1 (hs.all 7 _ J).1 hTw)) ?_
            rintro⟨bA,bc⟩ -
            refine n9 ?_;refine JN (u9 J) ?_;refine J7 (i:=6) J Dc Kr J ?_;refine JU K0 (X:= (Option Addr×Nat)×Nat×Nat) (v:=fun x=>qr x.1.1 (vJ rs ss how).length x.1.2) (r:=fun x=>Mw x.2.1 x.2.2 (vJ rs ss how).length (vJ rs ss how) x.1.1) (H:=fun _=>True) J J J (lb J) (fun w1 hs=>Bv (V:=fun A' c'=>qr A' (vJ rs ss how).length c') (wo bA _ bc (Qp rs ss how) w1 (Vr (k:=8) (x:= (bA,bc)) (ls:=Qp rs ss how) J J w1 hs) (xJ hTw) (Og hTw hPr))) ?_
            rintro⟨⟨tA,tc⟩,tlo,thi⟩ -
            refine n9 ?_;refine JN (u9 J) ?_;refine J7 (i:=7) J Dc Kr J ?_;refine JU kT (X:= (Option Addr×Nat)×Nat×Nat) (v:=fun x=>qr x.1.1 (vJ rs ss how).length x.1.2) (r:=fun x=>kI (vJ rs ss how).length (vw (vJ rs ss how)) x.2.1 x.2.2 x.1.1) (H:=fun _=>True) J J J (lb J) (fun w1 hs=>Q6 (V:=fun A' c'=>qr A' (vJ rs ss how).length c') (vW tA _ tc (vJ rs ss how) w1 (jaY (hs.all 9 _ J).1) hoT)) ?_
            rintro⟨⟨oA,oc⟩,olo,ohi⟩ -
            refine n9 ?_;refine JN (u9 J) ?_;refine J7 (i:=9) J Dc Kr J ?_;refine S1 ?_;refine JN (u9 J) ?_;refine JJ Kr ?_;refine S1 ?_
            exact ka h_15 ((((oA,oc),olo,ohi),b10)) (trivial) ⟨J,sz⟩ (fun _ h=>h.picks [2,10,5] Dc)
          ·rintro⟨⟨⟨oA,oc⟩,olo,ohi⟩,bo⟩ -
           refine v9 ?_;refine r9 ?_;refine S4 ?_;refine a9 (jM vL J J (fun w1 hs=>Wh oA _ oc (vw (vJ rs ss how)) w1 (UE (hs.all 1 _ J).1).rings (by have:=hoT.1;omega))) ?_;refine S2 ?_;refine cZ (fun c6=> ?_) (fun c6=> ?_)
           ·refine S2 ?_;refine a9 (JR J J (J9)) ?_;refine S6 ?_;refine qh J (J8 (k:=0) J jv J J) (.tmp J) ?_
            intro w' hs
            obtain ⟨f1,f2⟩ :=jhe c6
            exact⟨none,0,by rw [f1,f2];rfl,by rw [f1];exact OwnG.nil none,hs.fin⟩
           ·refine S10 ?_;refine qh J (J8 (k:=0) J jv J J) (.tmp J) ?_
            intro w' hs
            obtain ⟨f1,f2⟩ :=jfc c6
            have hg:=hs.all 1 _ rfl
            have ho:=yC hg.1 (fun b hb=> (hg.2.1 b hb).elim id (fun h=>by cases h))
            exact⟨oA,oc,by rw [f1,f2,Bn],by rw [f1,Bn];exact ho,hs.fin⟩
end Go.Proofs.YtbahojdbmmjkcaaGreat
