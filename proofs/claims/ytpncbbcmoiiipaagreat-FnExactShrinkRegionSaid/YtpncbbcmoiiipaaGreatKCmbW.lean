import Derived.Test.YtpncbbcmoiiipaaGreatKBrd2
set_option linter.unusedVariables false
set_option linter.unusedSimpArgs false
namespace Go.Proofs.YtpncbbcmoiiipaaGreat
open Go Go.RowKit
set_option maxRecDepth 100000
set_option maxHeartbeats 4000000
theorem OT {P:Program} {f:FuncId} {args:Array Value} {w1:World} {n:Nat} {rs:List jV} {V:Option Addr→Nat→Value} (h:Calls P f args w1 fun e w'=>∃A c,e= .returned (V A c)∧OwnG w1.heap.size w'.heap.size w' A n rs∧(L5 w1.heap.size w'.heap.size n rs A).P w'∧Over w1 w') :
  Calls P f args w1 fun e w'=>∃x: (Option Addr×Nat)×Nat×Nat,e= .returned (V x.1.1 x.1.2)∧Over w1 w'∧(L5 x.2.1 x.2.2 n rs x.1.1).P w'∧(∀b,(L5 x.2.1 x.2.2 n rs x.1.1).F b→w1.heap.size≤b)∧(L5 x.2.1 x.2.2 n rs x.1.1).B=0∧True:=by
 refine h.mono ?_
 rintro e w' ⟨A,c,rfl,ho,hc,hO⟩
 exact⟨((A,c),w1.heap.size,w'.heap.size),rfl,hO,hc,fun b hb=>hb.1,sz⟩
theorem jah {lo hi n:Nat} {w:World} {A:Option Addr} {rs:List jV} (h: (L5 lo hi n rs A).P w) :RingsC w A n rs:=h.2 w h.1 fun _ _ _=>rfl
theorem jbj {rs ss:List jV} {how:Int} (h: (!xh rs ss) =true) :uU rs ss how= []∧Gz rs ss how=1:=by
 rw [ji2] at h
 simp [uU,Gz,h]
theorem jgi {rs ss:List jV} {how:Int} (h:xh rs ss=true) (h2: (!HY how) =true) :uU rs ss how= []∧Gz rs ss how=2:=by
 rw [ji2] at h2
 simp [uU,Gz,h,h2]
theorem jfL {rs ss:List jV} {how:Int} (h:xh rs ss=true) (h2:HY how=true) :uU rs ss how=LJ rs ss how∧Gz rs ss how=FE rs ss how:=by
 simp [uU,Gz,h,h2]
theorem Mc {rs ss:List jV} {how:Int} (h:VE rs ss=false) :LJ rs ss how= []∧FE rs ss how=5:=by simp [LJ,FE,h]
theorem jbr {rs ss:List jV} {how:Int} (h:VE rs ss=true) :LJ rs ss how=GL (KX (vo rs ss how))∧FE rs ss how=LM (KX (vo rs ss how)) :=by simp [LJ,FE,h]
theorem jgq {rs:List jV} (h:JE rs=false) :GL rs= []∧LM rs=5:=by simp [GL,LM,h]
theorem jeq {rs:List jV} (h:JE rs=true) :GL rs=rs∧LM rs=0:=by simp [GL,LM,h]
theorem PJ {rs ss:List jV} (h:¬(jE rs++jE ss).length≤400) :VE rs ss=false:=by simp only [VE,decide_eq_false h,jiC]
theorem jbL {rs ss:List jV} (h: (VA rs ss&&WO rs ss) =false) :VE rs ss=false:=by rw [VE,h,Bool.and_false]
theorem jbK {rs ss:List jV} (hl: (jE rs++jE ss).length≤400) (h: (VA rs ss&&WO rs ss) =true) :VE rs ss=true:=by rw [VE,h,Bool.and_true,decide_eq_true hl]
theorem Z9 (A:Option Addr) (n c:Nat) (rs:List jV) (A2:Option Addr) (n2 c2_:Nat) (ss:List jV) (how:Int) (w:World) (h:Rings w A n rs) (hm: (n:Int)≤9223372036854775807) (h2:Rings w A2 n2 ss) (hm2: (n2:Int)≤9223372036854775807) :
  Calls Tryz.prog 52 #[qT A n c,qT A2 n2 c2_, .int .i64 how] w fun e w'=>∃A' c',e= .returned (.tuple #[qT A' (uU rs ss how).length c', .int .i64 (Gz rs ss how)])∧OwnG w.heap.size w'.heap.size w' A' (uU rs ss how).length (uU rs ss how)∧Over w w':=by
 have hl:=h.1
 have hl2:=h2.1
 refine Jh (m:=78) (Tryz.func52) J J (lb J) ?_;refine S3 ?_;refine aX (fun b1=> ?_);refine N1 ?_;refine aX (fun b2=> ?_);refine N1 ?_;refine aL (fun b3=> ?_);refine N3 ?_;refine qt [(20, .bool (!xh rs ss))] (kK [2,3,4,6,7]) (fun L h_1=> ?_) ?_
 ·refine S2 ?_;refine a9 (jT vG J J (fun w1 hs=>wM A n c rs w1 (h.over hs.fin) hm)) ?_;refine S2 ?_;refine cV 16 (fun g1=> ?_) (fun g1=> ?_)
  ·refine S5 ?_
   exact Jk h_1 ⟨vb (by rw [xh,g1];rfl),sz⟩ (u9 J)
  ·refine S3 ?_;refine o9 (jT vG J J (fun w1 hs=>wM A2 n2 c2_ ss w1 (h2.over hs.fin) hm2)) ?_;refine S4 ?_
   exact Jk h_1 ⟨vb (by rw [xh,g1];rfl),sz⟩ (u9 J)
 ·refine v9 ?_;refine cZ (fun c1=> ?_) (fun c1=> ?_)
  ·refine S2 ?_;refine a9 (JU J J (qg)) ?_;refine S6 ?_;refine qv J (qh (k:=2) J jG J J) (.tmp J) ?_
   intro w' hs
   obtain ⟨e1,e2⟩ :=jbj (how:=how) (by simpa using c1)
   exact⟨none,0,by rw [e1,e2];rfl,by rw [e1];exact OwnG.nil none,hs.fin⟩
  ·have hin:xh rs ss=true:= (by simpa using c1)
   refine S3 ?_;refine qt [(27, .bool (!HY how))] (kK [2,3,4,6,7]) (fun L h_3=> ?_) ?_
   ·refine S4 ?_;refine cV 24 (fun g2=> ?_) (fun g2=> ?_)
    ·refine S4 ?_
     exact Jk h_3 ⟨vb (by rw [HY,decide_eq_false (show¬1≤how by omega)];rfl),sz⟩ (u9 J)
    ·refine S6 ?_
     exact Jk h_3 ⟨vb (by rw [HY,decide_eq_true (show 1≤how by omega),jix,jiN];simp),sz⟩ (u9 J)
   ·refine v9 ?_;refine cZ (fun c2=> ?_) (fun c2=> ?_)
    ·refine S2 ?_;refine a9 (JU J J (qg)) ?_;refine S6 ?_;refine qv J (qh (k:=2) J jG J J) (.tmp J) ?_
     intro w' hs
     obtain ⟨e1,e2⟩ :=jgi (how:=how) hin (by simpa using c2)
     exact⟨none,0,by rw [e1,e2];rfl,by rw [e1];exact OwnG.nil none,hs.fin⟩
    ·obtain ⟨e1,e2⟩ :=jfL (how:=how) hin (by simpa using c2)
     rw [e1,e2]
     have hr:JE rs=true:= (by have:=hin;rw [xh,jig] at this;exact this.1)
     have hr2:JE ss=true:= (by have:=hin;rw [xh,jig] at this;exact this.2)
     have hb1:=Yj hr
     have hb2:=Yj hr2
     have ht1:= (smallR.of hb1).total
     have ht2:= (smallR.of hb2).total
     have eb1:=vp hr
     have eb2:=vp hr2
     have hE1:=xK hr
     have hE2:=xK hr2
     refine S2 ?_;refine Ul (X:= ((Option Addr×Nat)×Nat×Nat)×((Option Addr×Nat)×Nat×Nat)) (fun x=>True) (fun x=> []) (kK [2,3,4,6,7]) (fun x=> [.cel b1 26 [.slice x.1.1.1 (J8 rs).length x.1.1.2], .cel b2 26 [.slice x.2.1.1 (J8 ss).length x.2.1.2], .cel b3 26 [.slice none 0 0],Ky (J8 rs).length (J8 rs) x.1.2.1 x.1.2.2 x.1.1.1,Ky (J8 ss).length (J8 ss) x.2.2.1 x.2.2.2 x.2.1.1]) (fun L h_5=> ?_) ?_
     ·refine S1 ?_;refine JS 4 ?_;refine dK 0 ?_;refine dV 2 [3] ?_;refine qe (i:=1) J Dc Kr J ?_;refine J4 Uf (X:= (Option Addr×Nat)×Nat×Nat) (v:=fun x=>qT x.1.1 (J8 rs).length x.1.2) (r:=fun x=>Ky (J8 rs).length (J8 rs) x.2.1 x.2.2 x.1.1) (H:=fun _=>True) J J J (lb J) (fun w1 hs=>KB (YV A n c rs w1 (h.over hs.fin) hr)) ?_
      rintro⟨⟨gA,gc⟩,glo,ghi⟩ -
      refine n9 ?_;refine Yq (u9 J) ?_;refine qe (i:=3) J Dc Kr J ?_;refine J4 Uf (X:= (Option Addr×Nat)×Nat×Nat) (v:=fun x=>qT x.1.1 (J8 ss).length x.1.2) (r:=fun x=>Ky (J8 ss).length (J8 ss) x.2.1 x.2.2 x.1.1) (H:=fun _=>True) J J J (lb J) (fun w1 hs=>KB (YV A2 n2 c2_ ss w1 (h2.over hs.fin) hr2)) ?_
      rintro⟨⟨kA,kc⟩,klo,khi⟩ -
      refine n9 ?_;refine Yq (u9 J) ?_;refine vg J Kr J ?_;refine S1 ?_;refine Qx 6 [1] ?_;refine qe (i:=5) J Dc Kr J ?_;refine S1 ?_;refine JO (uw [1] J) ?_;refine JK Kr ?_;refine S1 ?_
      exact kg h_5 ((((gA,gc),glo,ghi),((kA,kc),klo,khi))) (trivial) ⟨J,sz⟩ (fun _ h=>h.picks [0,1,2,3,4] Dc)
     ·rintro⟨⟨⟨gA,gc⟩,glo,ghi⟩,⟨⟨kA,kc⟩,klo,khi⟩⟩ -
      refine v9 ?_;refine r9 ?_;refine Ul (X:=Option Addr×Nat) (fun x=>True) (fun x=> [(8, .slice x.1 (Dn rs ss).length x.2)]) (kK [2,3,4,6,7]) (fun x=> [.cel b1 26 [.slice gA (J8 rs).length gc], .cel b2 26 [.slice kA (J8 ss).length kc], .cel b3 26 [.slice none 0 0],Ky (J8 rs).length (J8 rs) glo ghi gA,Ky (J8 ss).length (J8 ss) klo khi kA,JY 0 131 4 (Dn rs ss).length ((Dn rs ss).flatMap jZ) x]) (fun L h_6=> ?_) ?_
      ·refine S1 ?_;refine JS 7 ?_;refine dK 0 ?_;refine dK 2 ?_;refine qe (i:=1) J Dc Kr J ?_;refine J4 Ks (v:=fun x:Option Addr×Nat=> .slice x.1 (jE rs).length x.2) (r:=fun x=>JY 0 131 4 (jE rs).length ((jE rs).flatMap jZ) x) (H:=fun _=>True) J J J (lb J) (fun w1 hs=>Qh (by rw [←eb1];exact VQ gA _ gc (J8 rs) w1 (UD (hs.all 3 _ J).1).rings Om)) ?_
       rintro⟨eA,ec⟩ -
       refine n9 ?_;refine Yq (u9 J) ?_;refine qe (i:=3) J Dc Kr J ?_;refine J4 Ks (v:=fun x:Option Addr×Nat=> .slice x.1 (jE ss).length x.2) (r:=fun x=>JY 0 131 4 (jE ss).length ((jE ss).flatMap jZ) x) (H:=fun _=>True) J J J (lb J) (fun w1 hs=>Qh (by rw [←eb2];exact VQ kA _ kc (J8 ss) w1 (UD (hs.all 4 _ J).1).rings Om)) ?_
       rintro⟨fA,fc⟩ -
       refine n9 ?_;refine Yq (u9 J) ?_;refine qe (i:=4) J Dc Kr J ?_;refine Jx J J (wB J J) J (lb J) (fun b4=> ?_);refine n9 ?_;refine JO (u9 J) ?_;refine qe (i:=5) J Dc Kr J ?_;refine J4 Kg (v:=fun x:Option Addr×Nat=> .slice x.1 (Dn rs ss).length x.2) (r:=fun x=>JY 0 131 4 (Dn rs ss).length ((Dn rs ss).flatMap jZ) x) (H:=fun _=>True) J J J (lb J) (fun w1 hs=>Qh (PB (hs.cel (k:=7) J) (x1:= (eA,ec)) (x2:= (fA,fc)) (E1:=jE rs) (E2:=jE ss) (hs.all 5 _ J).1 (hs.all 6 _ J).1 Om)) ?_
       rintro⟨lA_,lc⟩ -
       refine n9 ?_;refine JO (u9 J) ?_;refine dK 6 ?_;refine JK Kr ?_;refine S1 ?_
       exact kg h_6 ((lA_,lc)) (trivial) ⟨J,sz⟩ (fun _ h=>h.picks [0,1,2,3,4,8] Dc)
      ·rintro⟨lA_,lc⟩ -
       refine v9 ?_;refine r9 ?_;refine S7 ?_;refine cZ (fun c3=> ?_) (fun c3=> ?_)
       ·refine S2 ?_;refine a9 (JU J J (qg)) ?_;refine S6 ?_;refine qv J (qh (k:=2) J jG J J) (.tmp J) ?_
        intro w' hs
        have hno:=PJ (rs:=rs) (ss:=ss) (show¬(Dn rs ss).length≤400 by omega)
        obtain ⟨e3,e4⟩ :=Mc (how:=how) hno
        exact⟨none,0,by rw [e3,e4];rfl,by rw [e3];exact OwnG.nil none,hs.fin⟩
       ·have h4: (Dn rs ss).length≤400:=Om
        have hC:CmOk rs ss:=⟨hr,hr2,h4⟩
        have hk:=hC.hot1
        have hk2:=hC.hot2
        refine S6 ?_;refine J4 XK (v:=fun x:Option Addr×Nat=> .slice x.1 (wQ rs ss).length x.2) (r:=fun x=>JY 0 56 2 (wQ rs ss).length ((wQ rs ss).flatMap Js) x) (H:=fun _=>True) J J J (lb J) (fun w1 hs=>Qh (BI lA_ _ lc (Dn rs ss) w1 (JC (k:=5) (x:= (lA_,lc)) (ls:=Dn rs ss) J J w1 hs) hC.legs h4 (uZ (hs.all 5 _ J).1))) ?_
        rintro⟨pA,pc⟩ -
        refine N7 ?_;refine qO (k:=3) (X:= (Option Addr×Nat)×Nat×Nat) (v:=fun x=> .tuple #[qT x.1.1 (uh rs ss).length x.1.2, .int .i64 (CV (wQ rs ss) (J8 rs)), .int .i64 (if VA rs ss=true then 0 else 5)]) (r':=fun x=>Ky (uh rs ss).length (uh rs ss) x.2.1 x.2.2 x.1.1) UL J J J Dc J (fun w1 hs=>jbO (A:=gA) (c:=gc) (V:=fun A' c'=> .tuple #[qT A' (uh rs ss).length c', .int .i64 (CV (wQ rs ss) (J8 rs)), .int .i64 (if VA rs ss=true then 0 else 5)]) (hs.all 3 _ J).1 J (Zj gA _ gc (J8 rs) pA (wQ rs ss).length pc (wQ rs ss) w1 (UD (hs.all 3 _ J).1).rings hk.reg (uu (hs.all 6 _ J).1 J) hk.len (uZ (hs.all 6 _ J).1) hk.ok hk.asc hk.nd hk.bare)) ?_
        rintro⟨⟨hA,hc⟩,hlo,hhi⟩
        refine N9 ?_;refine Ul (X:=List jV×(Option Addr×Nat)×Nat×Nat) (fun x=> (VA rs ss&&WO rs ss) =true→x.1=Wn rs ss) (fun x=> [(11, .int .i64 (if(VA rs ss&&WO rs ss) =true then 0 else 5))]) (kK [2,3,4,6,7]) (fun x=> [.cel b1 26 [.slice hA (uh rs ss).length hc], .cel b2 26 [.slice x.2.1.1 x.1.length x.2.1.2], .cel b3 26 [.slice none 0 0],Ky (uh rs ss).length (uh rs ss) hlo hhi hA,Ky x.1.length x.1 x.2.2.1 x.2.2.2 x.2.1.1]) (fun L h_t53=> ?_) ?_
        ·refine S5 ?_;refine cZ (fun c4=> ?_) (fun c4=> ?_)
         ·have hOa:VA rs ss=true:= (by cases k:VA rs ss<;>simp_all)
          refine S4 ?_;refine qO (k:=4) (X:= (Option Addr×Nat)×Nat×Nat) (v:=fun x=> .tuple #[qT x.1.1 (Wn rs ss).length x.1.2, .int .i64 (CV (wQ rs ss) (J8 ss)), .int .i64 (if WO rs ss=true then 0 else 5)]) (r':=fun x=>Ky (Wn rs ss).length (Wn rs ss) x.2.1 x.2.2 x.1.1) UL J J J Dc J (fun w1 hs=>jbO (A:=kA) (c:=kc) (V:=fun A' c'=> .tuple #[qT A' (Wn rs ss).length c', .int .i64 (CV (wQ rs ss) (J8 ss)), .int .i64 (if WO rs ss=true then 0 else 5)]) (hs.all 4 _ J).1 J (Zj kA _ kc (J8 ss) pA (wQ rs ss).length pc (wQ rs ss) w1 (UD (hs.all 4 _ J).1).rings hk2.reg (uu (hs.all 6 _ J).1 J) hk2.len (uZ (hs.all 6 _ J).1) hk2.ok hk2.asc hk2.nd hk2.bare)) ?_
          rintro⟨⟨mA,mc⟩,mlo,mhi⟩
          refine N8 ?_
          exact kg h_t53 ((Wn rs ss,(mA,mc),mlo,mhi)) (fun _=>rfl) ⟨by rw [hOa,jix];rfl,sz⟩ (fun _ h=> (h.picks [0,1,2,3,4] Dc).upto ⟨J,sz⟩)
         ·have hOa:VA rs ss=false:= (by cases k:VA rs ss<;>simp_all)
          refine S2 ?_
          exact kg h_t53 ((J8 ss,(kA,kc),klo,khi)) (fun h=>by rw [hOa] at h;cases h) ⟨by rw [hOa];rfl,sz⟩ (fun _ h=> (h.picks [0,1,2,3,4] Dc).upto ⟨rfl,sz⟩)
        ·rintro⟨bs,⟨mA,mc⟩,mlo,mhi⟩ hbs
         refine v9 ?_;refine r9 ?_;refine S6 ?_;refine cZ (fun c5=> ?_) (fun c5=> ?_)
         ·refine S2 ?_;refine a9 (JU J J (qg)) ?_;refine S7 ?_;refine qv J (qh (k:=2) J jG J J) (.tmp J) ?_
          intro w' hs
          have hO: (VA rs ss&&WO rs ss) =false:= (by cases k: (VA rs ss&&WO rs ss) <;>simp_all)
          obtain ⟨e3,e4⟩ :=Mc (how:=how) (jbL hO)
          exact⟨none,0,by rw [e3,e4,hO];rfl,by rw [e3];exact OwnG.nil none,hs.fin⟩
         ·have hO: (VA rs ss&&WO rs ss) =true:= (by cases k: (VA rs ss&&WO rs ss) <;>simp_all)
          obtain rfl:bs=Wn rs ss:=hbs hO
          have hO1:VA rs ss=true:= (by rw [jig] at hO;exact hO.1)
          have hO2:WO rs ss=true:= (by rw [jig] at hO;exact hO.2)
          have hg1:= (Zl hk hO1).1
          have hg2:= (Zl hk2 hO2).1
          have hs1:= (smallR.of hg1).total
          have hs2:= (smallR.of hg2).total
          have hTw:=hC.two hO1 hO2
          have hPr:=hC.pair hO1 hO2
          have hoT:=hC.okT hO1 hO2 how
          obtain ⟨e3,e4⟩ :=jbr (how:=how) (jbK h4 hO)
          rw [e3,e4]
          refine S2 ?_;refine Ul (X:= ((Option Addr×Nat)×Nat×Nat)×Nat) (fun x=>True) (fun x=> [(12, .pointer (some ⟨x.2,0,none⟩))]) (kK [6,7]) (fun x=> [.cel b3 26 [.slice none 0 0],Ky (vo rs ss how).length (KX (vo rs ss how)) x.1.2.1 x.1.2.2 x.1.1.1, .cel x.2 26 [.slice x.1.1.1 (vo rs ss how).length x.1.1.2]]) (fun L h_15=> ?_) ?_
          ·refine S1 ?_;refine JS 10 ?_;refine dK 0 ?_;refine dK 2 ?_;refine dK 4 ?_;refine MR (i:=1) (j:=8) J J Dc Dc Kr J J ?_ ?_
           ·refine J4 Ks (v:=fun x:Option Addr×Nat=> .slice x.1 (jE (uh rs ss)).length x.2) (r:=fun x=>JY 0 131 4 (jE (uh rs ss)).length ((jE (uh rs ss)).flatMap jZ) x) (H:=fun _=>True) J J J (lb J) (fun w1 hs=>Qh (VQ hA _ hc (uh rs ss) w1 (UD (hs.all 3 _ J).1).rings (jjC hs1 Dc))) ?_
            rintro⟨eA,ec⟩ -
            refine n9 ?_;refine JO (u9 J) ?_;refine MR (i:=3) (j:=8) J J Dc Dc Kr J J ?_ ?_
            ·refine J4 Ks (v:=fun x:Option Addr×Nat=> .slice x.1 (jE (Wn rs ss)).length x.2) (r:=fun x=>JY 0 131 4 (jE (Wn rs ss)).length ((jE (Wn rs ss)).flatMap jZ) x) (H:=fun _=>True) J J J (lb J) (fun w1 hs=>Qh (VQ mA _ mc (Wn rs ss) w1 (UD (hs.all 4 _ J).1).rings (jjC hs2 Dc))) ?_
             rintro⟨fA,fc⟩ -
             refine n9 ?_;refine JO (u9 J) ?_;refine MR (i:=5) (j:=8) J J Dc Dc Kr J J ?_ ?_
             ·refine J4 vH (v:=fun x:Option Addr×Nat=> .slice x.1 (QG rs ss how).length x.2) (r:=fun x=>JY 0 131 4 (QG rs ss how).length ((QG rs ss how).flatMap jZ) x) (H:=fun _=>True) J J J (lb J) (fun w1 hs=>Qh (wO (eA,ec) (fA,fc) (jE (uh rs ss)) (jE (Wn rs ss)) how w1 (hs.all 5 _ J).1 (hs.all 6 _ J).1 hTw)) ?_
              rintro⟨bA,bc⟩ -
              refine n9 ?_;refine JO (u9 J) ?_;refine MR (i:=6) (j:=8) J J Dc Dc Kr J J ?_ ?_
              ·refine J4 KV (X:= (Option Addr×Nat)×Nat×Nat) (v:=fun x=>qT x.1.1 (vo rs ss how).length x.1.2) (r:=fun x=>L5 x.2.1 x.2.2 (vo rs ss how).length (vo rs ss how) x.1.1) (H:=fun _=>True) J J J (lb J) (fun w1 hs=>OT (V:=fun A' c'=>qT A' (vo rs ss how).length c') (V6 bA _ bc (QG rs ss how) w1 (JC (k:=7) (x:= (bA,bc)) (ls:=QG rs ss how) J J w1 hs) (xg hTw) (MI hTw hPr))) ?_
               rintro⟨⟨tA,tc⟩,tlo,thi⟩ -
               refine n9 ?_;refine JO (u9 J) ?_;refine MR (i:=7) (j:=8) J J Dc Dc Kr J J ?_ ?_
               ·refine J4 kM (X:= (Option Addr×Nat)×Nat×Nat) (v:=fun x=>qT x.1.1 (vo rs ss how).length x.1.2) (r:=fun x=>Ky (vo rs ss how).length (KX (vo rs ss how)) x.2.1 x.2.2 x.1.1) (H:=fun _=>True) J J J (lb J) (fun w1 hs=>KB (V:=fun A' c'=>qT A' (vo rs ss how).length c') (vS tA _ tc (vo rs ss how) w1 (jah (hs.all 8 _ J).1) hoT)) ?_
                rintro⟨⟨oA,oc⟩,olo,ohi⟩ -
                refine n9 ?_;refine JO (u9 J) ?_;refine qe (i:=8) J Dc Kr J ?_;refine aL (fun b5=> ?_);refine n9 ?_;refine JO (u9 J) ?_;refine qe (i:=9) J Dc Kr J ?_;refine j9 10 jr.szx ?_;refine n9 ?_;refine JO (u9 J) ?_;refine JK Kr ?_;refine S1 ?_
                exact kg h_15 ((((oA,oc),olo,ohi),b5)) (trivial) ⟨J,sz⟩ (fun _ h=>h.picks [2,9,10] Dc)
               ·refine aL (fun b6=> ?_);refine n9 ?_;refine JO (u9 J) ?_;refine qe (i:=7) J Dc Kr J ?_;refine J4 kM (X:= (Option Addr×Nat)×Nat×Nat) (v:=fun x=>qT x.1.1 (vo rs ss how).length x.1.2) (r:=fun x=>Ky (vo rs ss how).length (KX (vo rs ss how)) x.2.1 x.2.2 x.1.1) (H:=fun _=>True) J J J (lb J) (fun w1 hs=>KB (V:=fun A' c'=>qT A' (vo rs ss how).length c') (vS tA _ tc (vo rs ss how) w1 (jah (hs.all 8 _ J).1) hoT)) ?_
                rintro⟨⟨oA,oc⟩,olo,ohi⟩ -
                refine n9 ?_;refine JO (u9 J) ?_;refine qe (i:=9) J Dc Kr J ?_;refine S1 ?_;refine JO (u9 J) ?_;refine JK Kr ?_;refine S1 ?_
                exact kg h_15 ((((oA,oc),olo,ohi),b6)) (trivial) ⟨J,sz⟩ (fun _ h=>h.picks [2,10,9] Dc)
              ·refine aL (fun b7=> ?_);refine n9 ?_;refine JO (u9 J) ?_;refine qe (i:=6) J Dc Kr J ?_;refine J4 KV (X:= (Option Addr×Nat)×Nat×Nat) (v:=fun x=>qT x.1.1 (vo rs ss how).length x.1.2) (r:=fun x=>L5 x.2.1 x.2.2 (vo rs ss how).length (vo rs ss how) x.1.1) (H:=fun _=>True) J J J (lb J) (fun w1 hs=>OT (V:=fun A' c'=>qT A' (vo rs ss how).length c') (V6 bA _ bc (QG rs ss how) w1 (JC (k:=7) (x:= (bA,bc)) (ls:=QG rs ss how) J J w1 hs) (xg hTw) (MI hTw hPr))) ?_
               rintro⟨⟨tA,tc⟩,tlo,thi⟩ -
               refine n9 ?_;refine JO (u9 J) ?_;refine qe (i:=7) J Dc Kr J ?_;refine J4 kM (X:= (Option Addr×Nat)×Nat×Nat) (v:=fun x=>qT x.1.1 (vo rs ss how).length x.1.2) (r:=fun x=>Ky (vo rs ss how).length (KX (vo rs ss how)) x.2.1 x.2.2 x.1.1) (H:=fun _=>True) J J J (lb J) (fun w1 hs=>KB (V:=fun A' c'=>qT A' (vo rs ss how).length c') (vS tA _ tc (vo rs ss how) w1 (jah (hs.all 9 _ J).1) hoT)) ?_
               rintro⟨⟨oA,oc⟩,olo,ohi⟩ -
               refine n9 ?_;refine JO (u9 J) ?_;refine qe (i:=9) J Dc Kr J ?_;refine S1 ?_;refine JO (u9 J) ?_;refine JK Kr ?_;refine S1 ?_
               exact kg h_15 ((((oA,oc),olo,ohi),b7)) (trivial) ⟨J,sz⟩ (fun _ h=>h.picks [2,10,8] Dc)
             ·refine aL (fun b8=> ?_);refine n9 ?_;refine JO (u9 J) ?_;refine qe (i:=5) J Dc Kr J ?_;refine J4 vH (v:=fun x:Option Addr×Nat=> .slice x.1 (QG rs ss how).length x.2) (r:=fun x=>JY 0 131 4 (QG rs ss how).length ((QG rs ss how).flatMap jZ) x) (H:=fun _=>True) J J J (lb J) (fun w1 hs=>Qh (wO (eA,ec) (fA,fc) (jE (uh rs ss)) (jE (Wn rs ss)) how w1 (hs.all 5 _ J).1 (hs.all 6 _ J).1 hTw)) ?_
              rintro⟨bA,bc⟩ -
              refine n9 ?_;refine JO (u9 J) ?_;refine qe (i:=6) J Dc Kr J ?_;refine J4 KV (X:= (Option Addr×Nat)×Nat×Nat) (v:=fun x=>qT x.1.1 (vo rs ss how).length x.1.2) (r:=fun x=>L5 x.2.1 x.2.2 (vo rs ss how).length (vo rs ss how) x.1.1) (H:=fun _=>True) J J J (lb J) (fun w1 hs=>OT (V:=fun A' c'=>qT A' (vo rs ss how).length c') (V6 bA _ bc (QG rs ss how) w1 (JC (k:=8) (x:= (bA,bc)) (ls:=QG rs ss how) J J w1 hs) (xg hTw) (MI hTw hPr))) ?_
              rintro⟨⟨tA,tc⟩,tlo,thi⟩ -
              refine n9 ?_;refine JO (u9 J) ?_;refine qe (i:=7) J Dc Kr J ?_;refine J4 kM (X:= (Option Addr×Nat)×Nat×Nat) (v:=fun x=>qT x.1.1 (vo rs ss how).length x.1.2) (r:=fun x=>Ky (vo rs ss how).length (KX (vo rs ss how)) x.2.1 x.2.2 x.1.1) (H:=fun _=>True) J J J (lb J) (fun w1 hs=>KB (V:=fun A' c'=>qT A' (vo rs ss how).length c') (vS tA _ tc (vo rs ss how) w1 (jah (hs.all 9 _ J).1) hoT)) ?_
              rintro⟨⟨oA,oc⟩,olo,ohi⟩ -
              refine n9 ?_;refine JO (u9 J) ?_;refine qe (i:=9) J Dc Kr J ?_;refine S1 ?_;refine JO (u9 J) ?_;refine JK Kr ?_;refine S1 ?_
              exact kg h_15 ((((oA,oc),olo,ohi),b8)) (trivial) ⟨J,sz⟩ (fun _ h=>h.picks [2,10,7] Dc)
            ·refine aL (fun b9=> ?_);refine n9 ?_;refine JO (u9 J) ?_;refine qe (i:=3) J Dc Kr J ?_;refine J4 Ks (v:=fun x:Option Addr×Nat=> .slice x.1 (jE (Wn rs ss)).length x.2) (r:=fun x=>JY 0 131 4 (jE (Wn rs ss)).length ((jE (Wn rs ss)).flatMap jZ) x) (H:=fun _=>True) J J J (lb J) (fun w1 hs=>Qh (VQ mA _ mc (Wn rs ss) w1 (UD (hs.all 4 _ J).1).rings (jjC hs2 Dc))) ?_
             rintro⟨fA,fc⟩ -
             refine n9 ?_;refine JO (u9 J) ?_;refine qe (i:=5) J Dc Kr J ?_;refine J4 vH (v:=fun x:Option Addr×Nat=> .slice x.1 (QG rs ss how).length x.2) (r:=fun x=>JY 0 131 4 (QG rs ss how).length ((QG rs ss how).flatMap jZ) x) (H:=fun _=>True) J J J (lb J) (fun w1 hs=>Qh (wO (eA,ec) (fA,fc) (jE (uh rs ss)) (jE (Wn rs ss)) how w1 (hs.all 5 _ J).1 (hs.all 7 _ J).1 hTw)) ?_
             rintro⟨bA,bc⟩ -
             refine n9 ?_;refine JO (u9 J) ?_;refine qe (i:=6) J Dc Kr J ?_;refine J4 KV (X:= (Option Addr×Nat)×Nat×Nat) (v:=fun x=>qT x.1.1 (vo rs ss how).length x.1.2) (r:=fun x=>L5 x.2.1 x.2.2 (vo rs ss how).length (vo rs ss how) x.1.1) (H:=fun _=>True) J J J (lb J) (fun w1 hs=>OT (V:=fun A' c'=>qT A' (vo rs ss how).length c') (V6 bA _ bc (QG rs ss how) w1 (JC (k:=8) (x:= (bA,bc)) (ls:=QG rs ss how) J J w1 hs) (xg hTw) (MI hTw hPr))) ?_
             rintro⟨⟨tA,tc⟩,tlo,thi⟩ -
             refine n9 ?_;refine JO (u9 J) ?_;refine qe (i:=7) J Dc Kr J ?_;refine J4 kM (X:= (Option Addr×Nat)×Nat×Nat) (v:=fun x=>qT x.1.1 (vo rs ss how).length x.1.2) (r:=fun x=>Ky (vo rs ss how).length (KX (vo rs ss how)) x.2.1 x.2.2 x.1.1) (H:=fun _=>True) J J J (lb J) (fun w1 hs=>KB (V:=fun A' c'=>qT A' (vo rs ss how).length c') (vS tA _ tc (vo rs ss how) w1 (jah (hs.all 9 _ J).1) hoT)) ?_
             rintro⟨⟨oA,oc⟩,olo,ohi⟩ -
             refine n9 ?_;refine JO (u9 J) ?_;refine qe (i:=9) J Dc Kr J ?_;refine S1 ?_;refine JO (u9 J) ?_;refine JK Kr ?_;refine S1 ?_
             exact kg h_15 ((((oA,oc),olo,ohi),b9)) (trivial) ⟨J,sz⟩ (fun _ h=>h.picks [2,10,6] Dc)
           ·refine aL (fun b10=> ?_);refine n9 ?_;refine JO (u9 J) ?_;refine qe (i:=1) J Dc Kr J ?_;refine J4 Ks (v:=fun x:Option Addr×Nat=> .slice x.1 (jE (uh rs ss)).length x.2) (r:=fun x=>JY 0 131 4 (jE (uh rs ss)).length ((jE (uh rs ss)).flatMap jZ) x) (H:=fun _=>True) J J J (lb J) (fun w1 hs=>Qh (VQ hA _ hc (uh rs ss) w1 (UD (hs.all 3 _ J).1).rings (jjC hs1 Dc))) ?_
            rintro⟨eA,ec⟩ -
            refine n9 ?_;refine JO (u9 J) ?_;refine qe (i:=3) J Dc Kr J ?_;refine J4 Ks (v:=fun x:Option Addr×Nat=> .slice x.1 (jE (Wn rs ss)).length x.2) (r:=fun x=>JY 0 131 4 (jE (Wn rs ss)).length ((jE (Wn rs ss)).flatMap jZ) x) (H:=fun _=>True) J J J (lb J) (fun w1 hs=>Qh (VQ mA _ mc (Wn rs ss) w1 (UD (hs.all 4 _ J).1).rings (jjC hs2 Dc))) ?_
            rintro⟨fA,fc⟩ -
            refine n9 ?_;refine JO (u9 J) ?_;refine qe (i:=5) J Dc Kr J ?_;refine J4 vH (v:=fun x:Option Addr×Nat=> .slice x.1 (QG rs ss how).length x.2) (r:=fun x=>JY 0 131 4 (QG rs ss how).length ((QG rs ss how).flatMap jZ) x) (H:=fun _=>True) J J J (lb J) (fun w1 hs=>Qh (wO (eA,ec) (fA,fc) (jE (uh rs ss)) (jE (Wn rs ss)) how w1 (hs.all 6 _ J).1 (hs.all 7 _ J).1 hTw)) ?_
            rintro⟨bA,bc⟩ -
            refine n9 ?_;refine JO (u9 J) ?_;refine qe (i:=6) J Dc Kr J ?_;refine J4 KV (X:= (Option Addr×Nat)×Nat×Nat) (v:=fun x=>qT x.1.1 (vo rs ss how).length x.1.2) (r:=fun x=>L5 x.2.1 x.2.2 (vo rs ss how).length (vo rs ss how) x.1.1) (H:=fun _=>True) J J J (lb J) (fun w1 hs=>OT (V:=fun A' c'=>qT A' (vo rs ss how).length c') (V6 bA _ bc (QG rs ss how) w1 (JC (k:=8) (x:= (bA,bc)) (ls:=QG rs ss how) J J w1 hs) (xg hTw) (MI hTw hPr))) ?_
            rintro⟨⟨tA,tc⟩,tlo,thi⟩ -
            refine n9 ?_;refine JO (u9 J) ?_;refine qe (i:=7) J Dc Kr J ?_;refine J4 kM (X:= (Option Addr×Nat)×Nat×Nat) (v:=fun x=>qT x.1.1 (vo rs ss how).length x.1.2) (r:=fun x=>Ky (vo rs ss how).length (KX (vo rs ss how)) x.2.1 x.2.2 x.1.1) (H:=fun _=>True) J J J (lb J) (fun w1 hs=>KB (V:=fun A' c'=>qT A' (vo rs ss how).length c') (vS tA _ tc (vo rs ss how) w1 (jah (hs.all 9 _ J).1) hoT)) ?_
            rintro⟨⟨oA,oc⟩,olo,ohi⟩ -
            refine n9 ?_;refine JO (u9 J) ?_;refine qe (i:=9) J Dc Kr J ?_;refine S1 ?_;refine JO (u9 J) ?_;refine JK Kr ?_;refine S1 ?_
            exact kg h_15 ((((oA,oc),olo,ohi),b10)) (trivial) ⟨J,sz⟩ (fun _ h=>h.picks [2,10,5] Dc)
          ·rintro⟨⟨⟨oA,oc⟩,olo,ohi⟩,bo⟩ -
           refine v9 ?_;refine r9 ?_;refine S4 ?_;refine a9 (jT vG J J (fun w1 hs=>wM oA _ oc (KX (vo rs ss how)) w1 (UD (hs.all 1 _ J).1).rings (by have:=hoT.1;omega))) ?_;refine S2 ?_;refine cZ (fun c6=> ?_) (fun c6=> ?_)
           ·refine S2 ?_;refine a9 (JU J J (qg)) ?_;refine S6 ?_;refine qv J (qh (k:=0) J jG J J) (.tmp J) ?_
            intro w' hs
            obtain ⟨f1,f2⟩ :=jgq c6
            exact⟨none,0,by rw [f1,f2];rfl,by rw [f1];exact OwnG.nil none,hs.fin⟩
           ·refine S10 ?_;refine qv J (qh (k:=0) J jG J J) (.tmp J) ?_
            intro w' hs
            obtain ⟨f1,f2⟩ :=jeq c6
            have hg:=hs.all 1 _ rfl
            have ho:=GN hg.1 (fun b hb=> (hg.2.1 b hb).elim id (fun h=>by cases h))
            exact⟨oA,oc,by rw [f1,f2,OI],by rw [f1,OI];exact ho,hs.fin⟩
end Go.Proofs.YtpncbbcmoiiipaaGreat
