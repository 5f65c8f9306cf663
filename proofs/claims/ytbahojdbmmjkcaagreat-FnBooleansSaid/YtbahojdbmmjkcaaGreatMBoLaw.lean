import Derived.Test.YtbahojdbmmjkcaaGreatMBoEnd
import Derived.Test.YtbahojdbmmjkcaaGreatMDrw
import Derived.Test.YtbahojdbmmjkcaaGreatMSnapG
import Derived.Test.YtbahojdbmmjkcaaGreatMCmbS
set_option linter.unusedVariables false
set_option linter.unusedSimpArgs false
namespace Go.Proofs.YtbahojdbmmjkcaaGreat
open Go Go.RowKit
set_option maxRecDepth 100000
set_option maxHeartbeats 4000000
theorem jcp (A B:Option Addr) (n c m d:Nat) (w:World) :Calls Tryz.prog 7 #[.slice A n c, .slice B m d] w fun e w'=>e= .returned (.bool (decide (1048576<n) || decide (1048576<m)))∧Over w w':=by
 refine j6 (m:=13) (Tryz.func7) J J (lb J) ?_;refine S10 ?_;refine cV 8 (fun g1=> ?_) (fun g1=> ?_)
 ·refine S7 ?_;refine jK J (.tmp J) ?_
  intro w' hs
  exact⟨QF (by rw [decide_eq_true (show 1048576<n by omega)];rfl),hs.fin⟩
 ·refine S10 ?_;refine jK J (.tmp J) ?_
  intro w' hs
  exact⟨QF (by rw [decide_eq_false (show¬1048576<n by omega),Bool.false_or];exact decide_eq_decide.2 Om),hs.fin⟩
theorem IE (A:Option Addr) (n c:Nat) (zs:List Int) (B:Option Addr) (m d:Nat) (ys:List Int) (w:World) (h:Byts w A n zs) (_hm: (n:Int)≤9223372036854775807) (h2:Byts w B m ys) (_hm2: (m:Int)≤9223372036854775807) :
  Calls Tryz.prog 3 #[.slice A n c, .slice B m d] w fun e w'=>e= .returned (.bool true)∧Over w w':=by
 refine j6 (m:=254) (Tryz.func3) J J (lb J) ?_;refine S9 ?_;refine a9 (jM O5 J J (fun w1 hs=>jcp A B n c m d w1)) ?_;refine S1 ?_;refine cZ (fun c1=> ?_) (fun c1=> ?_)
 ·refine S6 ?_;refine jK J (.tmp J) ?_
  intro w' hs
  exact⟨rfl,hs.fin⟩
 ·have hn:n≤1048576∧m≤1048576:=by simp at c1;omega
  refine S6 ?_;refine JU Yg (v:=fun x:DX 3×DPt=> .tuple #[qr x.1.2.1.1 x.1.1.1.length x.1.2.1.2,pV x.2.1]) (r:=fun x=>Ik x.1) (H:=fun _=>True) J J J (lb J) (fun w1 hs=>Xz (h.over hs.fin) hn.1) ?_
  rintro⟨⟨⟨rs,hrs⟩,⟨rA,rc⟩,rlo,rhi⟩,⟨p,hp⟩⟩ -
  refine n9 ?_
  try dsimp only
  refine S4 ?_;refine aL (fun b1=> ?_);refine N1 ?_;refine aL (fun b2=> ?_);refine N9 ?_;refine JU Yg (v:=fun x:DX 3×DPt=> .tuple #[qr x.1.2.1.1 x.1.1.1.length x.1.2.1.2,pV x.2.1]) (r:=fun x=>Ik x.1) (H:=fun _=>True) J J J (lb J) (fun w1 hs=>Xz (h2.over hs.fin) hn.2) ?_
  rintro⟨⟨⟨ss,hss⟩,⟨sA,sc⟩,slo,shi⟩,⟨p2,hp2⟩⟩ -
  refine n9 ?_
  try dsimp only
  have hreg:=Il hrs Dc
  have hreg2:=Il hss Dc
  have hj:=Il (Cy hrs hss) Dc
  have htot:=Hi hrs
  have htot2:=Hi hss
  have htj:=Hi (Cy hrs hss)
  have hpb:bd2 p:=jgy hp Dc
  have hl1:rs.length≤3:=hrs.1
  have hl2:ss.length≤3:=hss.1
  have hjR:jnR rs ss=rs++ss:=by rw [jnR,if_pos (by rw [hreg,hreg2];rfl)];exact if_pos hj
  have hjC:jnC rs ss=0:=by rw [jnC,if_pos (by rw [hreg,hreg2];rfl)];exact if_pos hj
  have hq:=jhV hj
  refine S4 ?_;refine aL (fun b3=> ?_);refine N1 ?_;refine aL (fun b4=> ?_);refine N10 ?_;refine JU xh (X:= (Option Addr×Nat)×Nat×Nat) (v:=fun x=> .tuple #[qr x.1.1 (rs++ss).length x.1.2, .int .i64 (0)]) (r:=fun x=>kI (rs++ss).length (rs++ss) x.2.1 x.2.2 x.1.1) (H:=fun _=>True) J J J (lb J) (fun w1 hs=>Q6 (V:=fun A' c'=> .tuple #[qr A' (rs++ss).length c', .int .i64 (0)]) (by have:=xp _ _ _ rc _ sc rs ss w1 (Ql (k:=0) J w1 hs) (Ql (k:=3) J w1 hs) Om Om;rw [hjR,hjC] at this;exact this)) ?_
  rintro⟨⟨jA9q,jc⟩,jlo,jhi⟩ -
  refine N4 ?_;refine aL (fun b5=> ?_);refine N8 ?_;refine JU x8 (X:= (Option Addr×Nat)×Nat×Nat) (v:=fun x=> .tuple #[qr x.1.1 (sgR (rs++ss)).length x.1.2, .int .i64 (sgN (rs++ss)), .int .i64 (sgC (rs++ss))]) (r:=fun x=>kI (sgR (rs++ss)).length (sgR (rs++ss)) x.2.1 x.2.2 x.1.1) (H:=fun _=>True) J J J (lb J) (fun w1 hs=>Q6 (V:=fun A' c'=> .tuple #[qr A' (sgR (rs++ss)).length c', .int .i64 (sgN (rs++ss)), .int .i64 (sgC (rs++ss))]) (Xn _ _ _ (rs++ss) w1 (Ql (k:=6) J w1 hs) Om)) ?_
  rintro⟨⟨kA,kc⟩,klo,khi⟩ -
  refine N5 ?_;refine aL (fun b6=> ?_);refine N10 ?_;refine JU Mh (X:= (Option Addr×Nat)×Nat×Nat) (v:=fun x=> .tuple #[qr x.1.1 (kS rs ss 1).length x.1.2, .int .i64 (uY rs ss 1)]) (r:=fun x=>kI (kS rs ss 1).length (kS rs ss 1) x.2.1 x.2.2 x.1.1) (H:=fun _=>True) J J J (lb J) (fun w1 hs=>Q6 (V:=fun A' c'=> .tuple #[qr A' (kS rs ss 1).length c', .int .i64 (uY rs ss 1)]) (RR _ _ rc rs _ _ sc ss w1 (Ql (k:=0) J w1 hs) Om (Ql (k:=3) J w1 hs) Om)) ?_
  rintro⟨⟨buA,buc⟩,bulo,buhi⟩ -
  refine N4 ?_;refine aL (fun b7=> ?_);refine N1 ?_;refine j9 11 jq.szx ?_;refine N7 ?_;refine JU O3 (X:= (Option Addr×Nat)×Nat×Nat) (v:=fun x=> .tuple #[qr x.1.1 (kS rs ss 2).length x.1.2, .int .i64 (uY rs ss 2)]) (r:=fun x=>kI (kS rs ss 2).length (kS rs ss 2) x.2.1 x.2.2 x.1.1) (H:=fun _=>True) J J J (lb J) (fun w1 hs=>Q6 (V:=fun A' c'=> .tuple #[qr A' (kS rs ss 2).length c', .int .i64 (uY rs ss 2)]) (Nq _ _ rc rs _ _ sc ss w1 (Ql (k:=0) J w1 hs) Om (Ql (k:=3) J w1 hs) Om)) ?_
  rintro⟨⟨bmA,bmc⟩,bmlo,bmhi⟩ -
  refine N4 ?_;refine aL (fun b8=> ?_);refine N1 ?_;refine j9 13 jq.szx ?_;refine N7 ?_;refine JU zn (X:= (Option Addr×Nat)×Nat×Nat) (v:=fun x=> .tuple #[qr x.1.1 (kS rs ss 3).length x.1.2, .int .i64 (uY rs ss 3)]) (r:=fun x=>kI (kS rs ss 3).length (kS rs ss 3) x.2.1 x.2.2 x.1.1) (H:=fun _=>True) J J J (lb J) (fun w1 hs=>Q6 (V:=fun A' c'=> .tuple #[qr A' (kS rs ss 3).length c', .int .i64 (uY rs ss 3)]) (Lo _ _ rc rs _ _ sc ss w1 (Ql (k:=0) J w1 hs) Om (Ql (k:=3) J w1 hs) Om)) ?_
  rintro⟨⟨blA,blc⟩,bllo,blhi⟩ -
  refine N4 ?_;refine aL (fun b9=> ?_);refine N1 ?_;refine j9 15 jq.szx ?_;refine N7 ?_;refine JU zn (X:= (Option Addr×Nat)×Nat×Nat) (v:=fun x=> .tuple #[qr x.1.1 (kS ss rs 3).length x.1.2, .int .i64 (uY ss rs 3)]) (r:=fun x=>kI (kS ss rs 3).length (kS ss rs 3) x.2.1 x.2.2 x.1.1) (H:=fun _=>True) J J J (lb J) (fun w1 hs=>Q6 (V:=fun A' c'=> .tuple #[qr A' (kS ss rs 3).length c', .int .i64 (uY ss rs 3)]) (Lo _ _ sc ss _ _ rc rs w1 (Ql (k:=3) J w1 hs) Om (Ql (k:=0) J w1 hs) Om)) ?_
  rintro⟨⟨brA,brc⟩,brlo,brhi⟩ -
  refine N4 ?_;refine aL (fun b10=> ?_);refine N1 ?_;refine j9 17 jq.szx ?_;refine N7 ?_;refine JU KF (X:= (Option Addr×Nat)×Nat×Nat) (v:=fun x=> .tuple #[qr x.1.1 (kS rs ss 4).length x.1.2, .int .i64 (uY rs ss 4)]) (r:=fun x=>kI (kS rs ss 4).length (kS rs ss 4) x.2.1 x.2.2 x.1.1) (H:=fun _=>True) J J J (lb J) (fun w1 hs=>Q6 (V:=fun A' c'=> .tuple #[qr A' (kS rs ss 4).length c', .int .i64 (uY rs ss 4)]) (Vh _ _ rc rs _ _ sc ss 4 w1 (Ql (k:=0) J w1 hs) Om (Ql (k:=3) J w1 hs) Om)) ?_
  rintro⟨⟨boA,boc⟩,bolo,bohi⟩ -
  refine N4 ?_;refine aL (fun b11=> ?_);refine N1 ?_;refine j9 19 jq.szx ?_;refine N3 ?_;refine qt [(128, .bool (!decide (sgC (rs++ss) =0∧uY rs ss 1=0∧uY rs ss 2=0∧uY rs ss 3=0∧uY ss rs 3=0∧uY rs ss 4=0)))] (kK [4,5,6,7,9,12,14,15,16,18,20,22]) (fun L h_12=> ?_) ?_
  ·refine S4 ?_;refine WZ 105 (.bool false) J (by rw [(show(!((0:Int) ==0)) =false from J)]) ?_;refine S6 ?_;refine cV 109 (fun g1=> ?_) (fun g1=> ?_)
   ·refine S20 ?_
    exact Jo h_12 ⟨vb (by simp_all),sz⟩ (u9 J)
   ·refine S6 ?_;refine cV 113 (fun g2=> ?_) (fun g2=> ?_)
    ·refine S16 ?_
     exact Jo h_12 ⟨vb (by simp_all),sz⟩ (u9 J)
    ·refine S6 ?_;refine cV 117 (fun g3=> ?_) (fun g3=> ?_)
     ·refine S12 ?_
      exact Jo h_12 ⟨vb (by simp_all),sz⟩ (u9 J)
     ·refine S6 ?_;refine cV 121 (fun g4=> ?_) (fun g4=> ?_)
      ·refine S8 ?_
       exact Jo h_12 ⟨vb (by simp_all),sz⟩ (u9 J)
      ·refine S6 ?_;refine cV 125 (fun g5=> ?_) (fun g5=> ?_)
       ·refine S4 ?_
        exact Jo h_12 ⟨vb (by simp_all),sz⟩ (u9 J)
       ·refine S6 ?_
        exact Jo h_12 ⟨vb (by simp_all;rfl),sz⟩ (u9 J)
  ·refine v9 ?_;refine cZ (fun c2=> ?_) (fun c2=> ?_)
   ·refine S5 ?_;refine JU Mk (X:= (Option Addr×Nat)×Nat×Nat) (v:=fun x=> .tuple #[qr x.1.1 (kS rs ss 1).length x.1.2, .int .i64 (uY rs ss 1)]) (r:=fun x=>kI (kS rs ss 1).length (kS rs ss 1) x.2.1 x.2.2 x.1.1) (H:=fun _=>True) J J J (lb J) (fun w1 hs=>Q6 (V:=fun A' c'=> .tuple #[qr A' (kS rs ss 1).length c', .int .i64 (uY rs ss 1)]) (My _ _ rc rs _ _ sc ss w1 (Ql (k:=0) J w1 hs) Om (Ql (k:=3) J w1 hs) Om)) ?_
    rintro⟨⟨wA,wc⟩,wlo,whi⟩ -
    refine N4 ?_;refine aL (fun b12=> ?_);refine N1 ?_;refine j9 21 jq.szx ?_;refine N11 ?_;refine jK J (.tmp J) ?_
    intro w' hs
    exact⟨QF (by simp),hs.fin⟩
   ·obtain ⟨z0,z1,z2,z3,z4,z5⟩ :sgC (rs++ss) =0∧uY rs ss 1=0∧uY rs ss 2=0∧uY rs ss 3=0∧uY ss rs 3=0∧uY rs ss 4=0:=by simpa using c2
    have hE:=jg0 hreg hreg2 z1 z2 z3 z4 z5
    have b1_:=Oa (kS rs ss 1)
    have b2_:=Oa (kS rs ss 2)
    have b3_:=Oa (kS rs ss 3)
    have b4_:=Oa (kS ss rs 3)
    have b5_:=Oa (kS rs ss 4)
    have tt:∀ {T:List jO},Jp T=true→(total T:Int)≤1048577:=fun h=>jkF (jf5 h) Dc
    refine S4 ?_;refine a9 (jl J J jv J (jR (k:=11) J)) ?_;refine a9 (jM vv J J (fun w1 hs=>vz _ _ _ (kS rs ss 1) w1 (Ql (k:=10) J w1 hs) (tt hE.r1))) ?_;refine S8 ?_;refine a9 (jl J J jv J (jR (k:=13) J)) ?_;refine a9 (jM vv J J (fun w1 hs=>vz _ _ _ (kS rs ss 2) w1 (Ql (k:=12) J w1 hs) (tt hE.r2))) ?_;refine S8 ?_;refine a9 (jl J J jv J (jR (k:=15) J)) ?_;refine a9 (jM vv J J (fun w1 hs=>vz _ _ _ (kS rs ss 3) w1 (Ql (k:=14) J w1 hs) (tt hE.r3))) ?_;refine S8 ?_;refine a9 (jl J J jv J (jR (k:=17) J)) ?_;refine a9 (jM vv J J (fun w1 hs=>vz _ _ _ (kS ss rs 3) w1 (Ql (k:=16) J w1 hs) (tt hE.r4))) ?_;refine S8 ?_;refine a9 (jl J J jv J (jR (k:=19) J)) ?_;refine a9 (jM vv J J (fun w1 hs=>vz _ _ _ (kS rs ss 4) w1 (Ql (k:=18) J w1 hs) (tt hE.r5))) ?_;refine S17 ?_;refine WZ 170 (.bool false) J (by rw [(show(!(XD (kS rs ss 1) ==XD (kS rs ss 2) +XD (kS rs ss 3) +XD (kS ss rs 3))) =false by rw [hE.a1];simp)]) ?_;refine S12 ?_;refine WZ 177 (.bool false) J (by rw [(show(!(XD (kS rs ss 4) ==XD (kS rs ss 3) +XD (kS ss rs 3))) =false by rw [hE.a2];simp)]) ?_;refine S6 ?_;refine WZ 181 (.bool false) J (by rw [(decide_eq_false (jkn.2 hE.n2))]) ?_;refine S6 ?_;refine WZ 185 (.bool false) J (by rw [(decide_eq_false (jkn.2 hE.n3))]) ?_;refine S6 ?_;refine Oc J ((decide_eq_false (jkn.2 hE.n4))) ?_;refine S9 ?_;refine a9 (jM O6 J J (fun w1 hs=>NJ _ _ _ (rs++ss) p (sgN (rs++ss) +1) w1 (Ql (k:=6) J w1 hs) hj hpb Om)) ?_;refine S1 ?_;refine cZ (fun c3=> ?_) (fun c3=> ?_)
    ·refine S6 ?_;refine jK J (.tmp J) ?_
     intro w' hs
     exact⟨rfl,hs.fin⟩
    ·obtain ⟨a,b,x1,x2,x3,x4,x5⟩ :=jg2 hreg hreg2 hj z0 z1 z2 z3 hpb c3
     have v1:xl rs p.1 p.2= .tuple #[.int .i64 (bi a), .int .i64 (Bq rs p.1 p.2)] :=by rw [xl,x1]
     have v2:xl ss p.1 p.2= .tuple #[.int .i64 (bi b), .int .i64 (Bq ss p.1 p.2)] :=by rw [xl,x2]
     have v3:xl (kS rs ss 1) p.1 p.2= .tuple #[.int .i64 (bi (a || b)), .int .i64 (Bq (kS rs ss 1) p.1 p.2)] :=by rw [xl,x3]
     have v4:xl (kS rs ss 2) p.1 p.2= .tuple #[.int .i64 (bi (a&&b)), .int .i64 (Bq (kS rs ss 2) p.1 p.2)] :=by rw [xl,x4]
     have v5:xl (kS rs ss 3) p.1 p.2= .tuple #[.int .i64 (bi (a&& !b)), .int .i64 (Bq (kS rs ss 3) p.1 p.2)] :=by rw [xl,x5]
     refine S6 ?_;refine a9 (jM VF J J (fun w1 hs=>v1▸VK _ _ _ rs p.1 p.2 w1 (Ql (k:=0) J w1 hs) Om)) ?_;refine S10 ?_;refine a9 (jM VF J J (fun w1 hs=>v2▸VK _ _ _ ss p.1 p.2 w1 (Ql (k:=3) J w1 hs) Om)) ?_;refine S9 ?_;refine a9 ((qD J J J).as (congrArg Value.bool (XG a))) ?_;refine S5 ?_;refine a9 ((qD J J J).as (congrArg Value.bool (XG b))) ?_;refine S4 ?_;refine a9 (jl J J jv J (jR (k:=11) J)) ?_;refine S1 ?_;refine a9 (jM VF J J (fun w1 hs=>v3▸VK _ _ _ (kS rs ss 1) p.1 p.2 w1 (Ql (k:=10) J w1 hs) (tt hE.r1))) ?_;refine S8 ?_;refine a9 (jl J J jv J (jR (k:=13) J)) ?_;refine S1 ?_;refine a9 (jM VF J J (fun w1 hs=>v4▸VK _ _ _ (kS rs ss 2) p.1 p.2 w1 (Ql (k:=12) J w1 hs) (tt hE.r2))) ?_;refine S8 ?_;refine a9 (jl J J jv J (jR (k:=15) J)) ?_;refine S1 ?_;refine a9 (jM VF J J (fun w1 hs=>v5▸VK _ _ _ (kS rs ss 3) p.1 p.2 w1 (Ql (k:=14) J w1 hs) (tt hE.r3))) ?_;refine S9 ?_;refine a9 ((qD rfl rfl rfl).as (congrArg Value.bool (XG (a || b)))) ?_;refine S2 ?_;refine cV 231 (fun g6=> ?_) (fun g6=> ?_)
     ·refine S2 ?_;refine a9 (VT Kh J J J) ?_;refine S1 ?_;refine cV 235 (fun g7=> ?_) (fun g7=> ?_)
      ·refine S3 ?_;refine o9 ((qD J J J).as (congrArg Value.bool (XG (a&&b)))) ?_;refine S4 ?_;refine cV 239 (fun g8=> ?_) (fun g8=> ?_)
       ·refine S5 ?_;refine o9 (VT Kh J J J) ?_;refine S2 ?_;refine cV 244 (fun g9=> ?_) (fun g9=> ?_)
        ·refine S3 ?_;refine o9 ((qD J J J).as (congrArg Value.bool (XG (a&& !b)))) ?_;refine S4 ?_;refine cV 248 (fun g10=> ?_) (fun g10=> ?_)
         ·refine S7 ?_;refine o9 (VT Kh J J J) ?_;refine S4 ?_;refine jK J (.tmp J) ?_
          intro w' hs
          clear x1 x2 x3 x4 x5 v1 v2 v3 v4 v5
          exact⟨QF (by cases a<;>cases b<;>simp_all),hs.fin⟩
         ·refine jm rfl rfl rfl rfl (by decide) rfl (by decide) ?_;refine jm rfl rfl rfl rfl (by decide) rfl (by decide) ?_;refine jz rfl rfl rfl rfl ?_;refine jU rfl (by decide) (jL rfl rfl rfl) ?_;refine jz rfl rfl rfl rfl ?_;refine jU rfl (by decide) (VT Kh rfl rfl rfl) ?_;refine S4 ?_;refine jK J (.tmp J) ?_
          intro w' hs
          clear x1 x2 x3 x4 x5 v1 v2 v3 v4 v5
          exact⟨QF (by cases a<;>cases b<;>simp_all),hs.fin⟩
        ·(clear x1 x2 x3 x4 x5 v1 v2 v3 v4 v5;cases a<;>cases b<;>simp_all)
       ·refine S4 ?_;refine o9 (VT Kh J J J) ?_;refine S2 ?_;refine cV 244 (fun g11=> ?_) (fun g11=> ?_)
        ·refine S3 ?_;refine o9 ((qD J J J).as (congrArg Value.bool (XG (a&& !b)))) ?_;refine S4 ?_;refine cV 248 (fun g12=> ?_) (fun g12=> ?_)
         ·refine S7 ?_;refine o9 (VT Kh J J J) ?_;refine S4 ?_;refine jK J (.tmp J) ?_
          intro w' hs
          clear x1 x2 x3 x4 x5 v1 v2 v3 v4 v5
          exact⟨QF (by cases a<;>cases b<;>simp_all),hs.fin⟩
         ·refine S5 ?_;refine o9 (VT Kh J J J) ?_;refine S4 ?_;refine jK J (.tmp J) ?_
          intro w' hs
          clear x1 x2 x3 x4 x5 v1 v2 v3 v4 v5
          exact⟨QF (by cases a<;>cases b<;>simp_all),hs.fin⟩
        ·(clear x1 x2 x3 x4 x5 v1 v2 v3 v4 v5;cases a<;>cases b<;>simp_all)
      ·(clear x1 x2 x3 x4 x5 v1 v2 v3 v4 v5;cases a<;>cases b<;>simp_all)
     ·refine S3 ?_;refine a9 (VT Kh J J J) ?_;refine S1 ?_;refine cV 235 (fun g13=> ?_) (fun g13=> ?_)
      ·refine S3 ?_;refine o9 ((qD J J J).as (congrArg Value.bool (XG (a&&b)))) ?_;refine S4 ?_;refine cV 239 (fun g14=> ?_) (fun g14=> ?_)
       ·refine S5 ?_;refine o9 (VT Kh J J J) ?_;refine S2 ?_;refine cV 244 (fun g15=> ?_) (fun g15=> ?_)
        ·refine S3 ?_;refine o9 ((qD J J J).as (congrArg Value.bool (XG (a&& !b)))) ?_;refine S4 ?_;refine cV 248 (fun g16=> ?_) (fun g16=> ?_)
         ·refine S7 ?_;refine o9 (VT Kh J J J) ?_;refine S4 ?_;refine jK J (.tmp J) ?_
          intro w' hs
          clear x1 x2 x3 x4 x5 v1 v2 v3 v4 v5
          exact⟨QF (by cases a<;>cases b<;>simp_all),hs.fin⟩
         ·refine S5 ?_;refine o9 (VT Kh J J J) ?_;refine S4 ?_;refine jK J (.tmp J) ?_
          intro w' hs
          clear x1 x2 x3 x4 x5 v1 v2 v3 v4 v5
          exact⟨QF (by cases a<;>cases b<;>simp_all),hs.fin⟩
        ·(clear x1 x2 x3 x4 x5 v1 v2 v3 v4 v5;cases a<;>cases b<;>simp_all)
       ·refine S4 ?_;refine o9 (VT Kh J J J) ?_;refine S2 ?_;refine cV 244 (fun g17=> ?_) (fun g17=> ?_)
        ·refine S3 ?_;refine o9 ((qD J J J).as (congrArg Value.bool (XG (a&& !b)))) ?_;refine S4 ?_;refine cV 248 (fun g18=> ?_) (fun g18=> ?_)
         ·refine S7 ?_;refine o9 (VT Kh J J J) ?_;refine S4 ?_;refine jK J (.tmp J) ?_
          intro w' hs
          clear x1 x2 x3 x4 x5 v1 v2 v3 v4 v5
          exact⟨QF (by cases a<;>cases b<;>simp_all),hs.fin⟩
         ·refine S5 ?_;refine o9 (VT Kh J J J) ?_;refine S4 ?_;refine jK J (.tmp J) ?_
          intro w' hs
          clear x1 x2 x3 x4 x5 v1 v2 v3 v4 v5
          exact⟨QF (by cases a<;>cases b<;>simp_all),hs.fin⟩
        ·(clear x1 x2 x3 x4 x5 v1 v2 v3 v4 v5;cases a<;>cases b<;>simp_all)
      ·(clear x1 x2 x3 x4 x5 v1 v2 v3 v4 v5;cases a<;>cases b<;>simp_all)
end Go.Proofs.YtbahojdbmmjkcaaGreat
