import Derived.Test.YtpncbbcmoiiipaaMDrw2
import Derived.Test.YtpncbbcmoiiipaaMCmbP
import Derived.Test.YtpncbbcmoiiipaaMWind2
import Derived.Test.YtpncbbcmoiiipaaMSnapG
import Derived.Test.YtpncbbcmoiiipaaMHotLaw
set_option linter.unusedVariables false
set_option linter.unusedSimpArgs false
namespace Go.Proofs.Ytpncbbcmoiiipaa
open Go Go.RowKit
set_option maxRecDepth 100000
set_option maxHeartbeats 4000000
theorem uO (a b p:Pn) (r:Int) (w:World) (ha:bd2 a) (hb:bd2 b) (hp:bd2 p) (hr:0≤r∧r≤262144) :
  Calls Try.prog 26 #[pV a,pV b,pV p, .int .i64 r] w fun e w'=>e= .returned (.bool (Kp a b p r))∧Over w w':=by
 refine Jh (m:=30) (Try.func26) J J (lb J) ?_;refine S3 ?_;refine aX (fun b1=> ?_);refine N1 ?_;refine aX (fun b2=> ?_);refine N1 ?_;refine aX (fun b3=> ?_);refine N5 ?_;refine a9 (jN Kk J J (fun w1 hs=>KK a.1 a.2 w1)) ?_;refine S1 ?_;refine KA 11 (.bool true) J (by rw [(kE ha)]) ?_;refine S3 ?_;refine o9 (jN Kk J J (fun w1 hs=>KK b.1 b.2 w1)) ?_;refine S2 ?_;refine KA 15 (.bool true) J (by rw [(kE hb)]) ?_;refine S3 ?_;refine o9 (jN Kk J J (fun w1 hs=>KK p.1 p.2 w1)) ?_;refine S2 ?_;refine KA 19 (.bool true) J (by rw [(kE hp)]) ?_;refine S3 ?_;refine o9 (jN yH J J (fun w1 hs=>Calls.still (vC r 0 262144 w1))) ?_;refine S2 ?_;refine KA 23 (.bool true) J (by rw [(show wB r 0 262144=true by simp only [wB,DL,decide_eq_true_eq];exact hr)]) ?_;refine S9 ?_;refine o9 (jN uV J J (fun w1 hs=>Gu a b p r w1 ha hb hp hr)) ?_;refine S4 ?_;refine jG J (.tmp J) ?_
 intro w' hs
 exact⟨rfl,hs.fin⟩
def OW (r:jx) (p:Pn) (d:Int) :Bool:= (List.range r.length).any fun k=>Kp (pt r k) (pt r (nx r k)) p d
def Bf (rs:List jx) (p:Pn) (d:Int) :Bool:=rs.any fun r=>OW r p d
theorem Ow {r:jx} {p:Pn} {d:Int} (h:∀q,q<r.length→Kp (pt r q) (pt r (nx r q)) p d=false) :OW r p d=false:=
 Ia.2 fun k hk=>by rw [h k (FV.1 hk)];decide
theorem Ms {r:jx} {p:Pn} {d:Int} {k:Nat} (hk:k<r.length) (h:Kp (pt r k) (pt r (nx r k)) p d=true) :OW r p d=true:=
 List.any_eq_true.2 ⟨k,FV.2 hk,h⟩
theorem Ov {rs:List jx} {p:Pn} {d:Int} (h:∀q,q<rs.length→OW (rg rs q) p d=false) :Bf rs p d=false:=
 Ia.2 fun r hr=>by
  obtain ⟨j,hj,rfl⟩ :=Fe hr
  rw [Ku hj,h j hj]
  decide
theorem Mr {rs:List jx} {p:Pn} {d:Int} {k:Nat} (hk:k<rs.length) (h:OW (rg rs k) p d=true) :Bf rs p d=true:=
 List.any_eq_true.2 ⟨rg rs k,by rw [←Ku hk];exact DR _,h⟩
theorem wL {xs:jx} {e:Leg} :∀k,e∈JK xs k→∃j,j<k∧lA e=pt xs j∧lB e=pt xs (nx xs j)
 | 0,h=>by simp [JK] at h
 | k+1,h=>by
  rw [q5] at h
  split at h
  ·obtain ⟨j,hj,e1⟩ :=wL k h
   exact⟨j,by omega,e1⟩
  ·rcases DV.1 h with h | h
   ·obtain ⟨j,hj,e1⟩ :=wL k h
    exact⟨j,by omega,e1⟩
   ·rw [DP.1 h]
    exact⟨k,by omega,rfl,rfl⟩
theorem Lb {rs:List jx} {p:Pn} {d:Int} (h:Bf rs p d=false) :∀e∈jv rs,Kp (lA e) (lB e) p d=false:=fun e he=>by
 obtain ⟨r,hr,he⟩ :=KG.1 he
 obtain ⟨j,hj,e1,e2⟩ :=wL _ he
 have h1:=Ia.1 h r hr
 have h2:=Ia.1 (Bool.not_eq_true _▸h1) j (FV.2 hj)
 rw [e1,e2]
 exact Bool.not_eq_true _▸h2
theorem Xf {E:List Leg} {p:Pn} (h:∀e∈E,VP (lA e) (lB e) p=false) :We false E p.1 p.2=false:=
 Ia.2 fun e he=>by
  rw [Z8]
  have:Bh e p.1 p.2=VP (lA e) (lB e) p:=rfl
  rw [this,h e he]
  decide
theorem X9 (E:List Leg) (p:Pn) :wind false E p.1 p.2=K7 p E:=by
 rw [wind,YD _ _ _ _ _ (DM _),FR]
 rfl
theorem MB {rs:List jx} (h:Je rs=true) : (Qq rs:Int)≤1048576:=Int.le_trans (smallR.of h).total Dc
theorem Y7 {xs:List Pn} {k:Nat} (h:k<xs.length) :pt xs k∈xs:=by rw [←QK h];exact DR h
section
variable {w:World} {Rs:List Res}
theorem xJ {b o:Nat} {cs:List Value} (h:∀j v,cs[j]? =some v→w.cell? ⟨b,o+j,none⟩ =some v) (hb:b<w.heap.size) :∀w',St ⟨w,[]⟩ Rs w'→∀j v,cs[j]? =some v→w'.cell? ⟨b,o+j,none⟩ =some v:=fun w' hs j v hj=>XN (h j v hj) hb w' hs
theorem xI {b o:Nat} {v:Value} (hc:w.cell? ⟨b,o,none⟩ =some v) (hb:b<w.heap.size) :∀w',St ⟨w,[]⟩ Rs w'→∀j u,[v][j]? =some u→w'.cell? ⟨b,o+j,none⟩ =some u:=fun w' hs j u hj=>by
 match j,hj with
 | 0,hj=>simp at hj;subst hj;exact xH hc hb w' hs
end
theorem Lz {rs ss:List jx} {p:Pn} {q:Nat} (hr:Je rs=true) (hp:bd2 p) (hF:SnapF rs ss q) (hn:Bf rs p ((q:Int) +1) =false) :
  u7 rs p.1 p.2=true∧u7 ss p.1 p.2=true∧wind false (jv rs) p.1 p.2=wind false (jv ss) p.1 p.2:=by
 have hf:∀e∈jv rs,Wo p q (lA e) (lB e) :=fun e he=>Od Om Om (Lb hn e he)
 obtain ⟨w1,w2⟩ :=hF.wind p hf
 have o1:=Xf fun e he=>HB (HA Om (hf e he))
 have o2:=Xf fun e he=>HB (w2 e he)
 refine⟨by simp [u7,hr,kE hp,o1],by simp [u7,hF.reg,kE hp,o2],?_⟩
 rw [X9,X9,w1]
theorem Ly {rs:List jx} (hr:Je rs=true) :Wc rs=xl rs:=by
 unfold Wc xl xj
 rw [Wn hr,if_pos hr]
theorem xb (A:Option Addr) (n c:Nat) (rs:List jx) (p:Pn) (d:Int) (w:World) (h:Rings w A n rs) (hr:Je rs=true) (hp:bd2 p) (hd:0≤d∧d≤262144) :
  Calls Try.prog 10 #[kP A n c,pV p, .int .i64 d] w fun e w'=>e= .returned (.bool (Bf rs p d))∧Over w w':=by
 have hl:=h.1
 have hn4:=we hr
 refine Jh (m:=44) (Try.func10) J J (lb J) ?_;refine S3 ?_;refine aX (fun b1=> ?_);refine N1 ?_;refine aX (fun b2=> ?_);refine N8 ?_;refine qC (X:=Nat) (fun k=>k≤n∧∀q,q<k→OW (rg rs q) p d=false) (fun k=>n- k) (fun k=> [(7, .int .i64 (k:Int))]) (kK [2,3,4,6]) 0 (⟨DQ _,fun q hq=>absurd hq (Nat.not_lt_zero _)⟩) ⟨J,sz⟩ ?_
 intro k hk L hL1
 refine v9 ?_
 obtain ⟨hkn,hno⟩ :=hk
 refine S9 ?_;refine cZ (fun c1=> ?_) (fun c1=> ?_)
 ·have hlt:k<n:=Om
  obtain ⟨eb,eo,Ak,ck,rfl,hbB,hcell,hpts,hmax⟩ :=h.at_ hlt
  obtain ⟨r1,r2,r3⟩ :=vh (kC hr (show k<rs.length by omega))
  refine Dh ?_;refine a9 (jo J J JN (Lt hcell hbB)) ?_;refine S7 ?_;refine qC (X:=Nat) (fun j=>j≤(rg rs k).length∧∀q,q<j→Kp (pt (rg rs k) q) (pt (rg rs k) (nx (rg rs k) q)) p d=false) (fun j=> (rg rs k).length- j) (fun j=> [(9, .int .i64 (j:Int))]) (kK [2,3,4,6,7,10,11,12,13,14,17,18,19,20,21,22,8]) 0 (⟨DQ _,fun q hq=>absurd hq (Nat.not_lt_zero _)⟩) ⟨J,sz⟩ ?_
  intro j hj L hL2
  refine v9 ?_
  obtain ⟨hjn,hno2⟩ :=hj
  refine S8 ?_;refine cZ (fun c2=> ?_) (fun c2=> ?_)
  ·have hjl:j< (rg rs k).length:=Om
   have hnx:=Yd (xs:=rg rs k) j Om
   obtain ⟨fb,fo,rfl,_⟩ :=hpts.2 Om
   have ba:=V9 (FG.1 r3 (pt (rg rs k) j) (Y7 hjl))
   have bb:=V9 (FG.1 r3 (pt (rg rs k) (nx (rg rs k) j)) (Y7 hnx))
   refine S6 ?_;refine qb 15 ?_;refine dK 0 ?_;refine dK 1 ?_;refine dK 2 ?_;refine dZ 3 J (jj J J jh J (VS hpts hjl)) ?_;refine dK 4 ?_;refine dK 5 ?_;refine dK 6 ?_;refine dK 7 ?_;refine dK 8 ?_;refine dZ 9 J ((za J J J Om Om Om).as (congrArg _ (XE J j))) ?_;refine dK 10 ?_;refine dZ 11 J (jj J J jh J (VS hpts hnx)) ?_;refine dK 12 ?_;refine dK 13 ?_;refine dZ 14 J (jN wu J J (fun w1 hs=>uO (pt (rg rs k) j) (pt (rg rs k) (nx (rg rs k) j)) p d w1 ba bb hp hd)) ?_;refine JI Kr ?_;refine S1 ?_;refine cZ (fun c3=> ?_) (fun c3=> ?_)
   ·have hy:=Mr (show k<rs.length by omega) (Ms hjl c3)
    refine Dk ?_;refine jG J (.tmp J) ?_
    intro w' hs
    exact⟨Qy hy.symm,hs.fin⟩
   ·refine S8 ?_
    exact qy hL2 (j+1) (⟨by omega,fun q hq=>by by_cases e:q=j;exact e▸c3;exact hno2 q Om⟩) Om ⟨vi Om,sz⟩ (u9 rfl)
  ·have hr0:=Ow fun q hq=>hno2 q Om
   refine Dh ?_
   exact qy hL1 (k+1) (⟨by omega,fun q hq=>by by_cases e:q=k;exact e▸hr0;exact hno q Om⟩) Om ⟨vi Om,sz⟩ (u9 rfl)
 ·have hy:=Ov (p:=p) (d:=d) fun q hq=>hno q Om
  refine Dg ?_;refine jG J (.tmp J) ?_
  intro w' hs
  exact⟨Qy hy.symm,hs.fin⟩
theorem HV (A:Option Addr) (n c:Nat) (zs:List Int) (w:World) (h:Byts w A n zs) (_hm: (n:Int)≤9223372036854775807) :
  Calls Try.prog 3 #[.slice A n c] w fun e w'=>e= .returned (.bool true)∧Over w w':=by
 refine Jh (m:=147) (Try.func3) J J (lb J) ?_;refine Dh ?_;refine cZ (fun c1=> ?_) (fun c1=> ?_)
 ·refine S6 ?_;refine jG J (.tmp J) ?_
  intro w' hs
  exact⟨rfl,hs.fin⟩
 ·have hn:n≤1048576:=Om
  refine S6 ?_;refine QQ uf (v:=fun x:DX 3×BZ=> .tuple #[kP x.1.2.1.1 x.1.1.1.length x.1.2.1.2,pV x.2.1]) (r:=fun x=>zO x.1) (H:=fun _=>True) J J J (lb J) (fun w1 hs=>YE (h.over hs.fin) hn) ?_
  rintro⟨⟨⟨rs,hrs⟩,⟨rA,rc⟩,rlo,rhi⟩,⟨p,hp⟩⟩ -
  refine n9 ?_
  try dsimp only
  have hreg:=L6 hrs Dc
  have htot:=Gq hrs
  have hp2:bd2 p:=MQ hp Dc
  have hht:Oh rs=0:=if_pos hreg
  refine S4 ?_;refine aL (fun b1=> ?_);refine N1 ?_;refine aL (fun b2=> ?_);refine N9 ?_;refine QQ WB (X:= (Option Addr×Nat)×Nat×Nat) (v:=fun x=> .tuple #[.slice x.1.1 (xl rs).length x.1.2, .int .i64 (Oh rs)]) (r:=fun x=>uY (xl rs).length (xl rs) x.2.1 x.2.2 x.1.1) (H:=fun _=>True) J J J (lb J) (fun w1 hs=>ME (yx _ _ _ rs w1 (Kn (k:=0) J w1 hs) Om)) ?_
  rintro⟨⟨hA,hc⟩,hlo,hhi⟩ -
  refine B8 ?_;refine QQ KR (X:= (Option Addr×Nat)×Nat×Nat) (v:=fun x=> .tuple #[kP x.1.1 (Vw rs).length x.1.2, .int .i64 (G5 rs), .int .i64 (GU rs)]) (r:=fun x=>vy (Vw rs).length (Vw rs) x.2.1 x.2.2 x.1.1) (H:=fun _=>True) J J J (lb J) (fun w1 hs=>xi (V:=fun A' c'=> .tuple #[kP A' (Vw rs).length c', .int .i64 (G5 rs), .int .i64 (GU rs)]) (Vx _ _ _ rs w1 (Kn (k:=0) J w1 hs) Om)) ?_
  rintro⟨⟨sA,sc⟩,slo,shi⟩ -
  refine N5 ?_;refine aL (fun b3=> ?_);refine B9 ?_;refine KA 43 (.bool false) J (by rw [(show(!(Oh rs==0)) =false by rw [hht];rfl)]) ?_;refine S6 ?_;refine cZ (fun c2=> ?_) (fun c2=> ?_)
  ·have h5:GU rs=5:=by have:= (ze hreg).2.2;split at this<;>simp_all
   refine S5 ?_;refine KA 49 (.bool true) J (by rw [(show(Oh rs==0) =true by rw [hht];rfl)]) ?_;refine S9 ?_;refine jG J (.tmp J) ?_
   intro w' hs
   exact⟨Qy (by rw [h5];rfl),hs.fin⟩
  ·have hc0:GU rs=0:=by simpa using c2
   obtain ⟨ss,q,hF⟩ :=OO hreg hc0
   have hR:=hF.r
   have hN:=hF.n
   have hreg2:Je (Vw rs) =true:=by rw [hR];exact hF.reg
   have hag:Vw (Vw rs) =Vw rs∧G5 (Vw rs) =0∧GU (Vw rs) =0:=by rw [hR];exact hF.again
   have hisn:YS (Vw rs) =true:=by rw [hR];exact hF.isn
   have htot2:=MB hreg2
   have hq4:=hF.q4
   refine S6 ?_;refine QQ KR (X:= (Option Addr×Nat)×Nat×Nat) (v:=fun x=> .tuple #[kP x.1.1 (Vw rs).length x.1.2, .int .i64 0, .int .i64 0]) (r:=fun x=>vy (Vw rs).length (Vw rs) x.2.1 x.2.2 x.1.1) (H:=fun _=>True) J J J (lb J) (fun w1 hs=>xi (V:=fun A' c'=> .tuple #[kP A' (Vw rs).length c', .int .i64 0, .int .i64 0]) (by have:=Vx _ _ sc (Vw rs) w1 (Kn (k:=4) J w1 hs) Om;rw [hag.1,hag.2.1,hag.2.2] at this;exact this)) ?_
   rintro⟨⟨gA,gc⟩,glo,ghi⟩ -
   refine N5 ?_;refine aL (fun b4=> ?_);refine B9 ?_;refine KA 61 (.bool false) J (by rw [(show(!((0:Int) ==0)) =false from J)]) ?_;refine S6 ?_;refine KA 65 (.bool false) J (by rw [(show(!((0:Int) ==0)) =false from J)]) ?_;refine S5 ?_;refine o9 (jN wQ J J (fun w1 hs=>wZ _ _ _ _ _ _ (Vw rs) (Vw rs) w1 (Kn (k:=6) J w1 hs) (Kn (k:=4) J w1 hs) Om Om)) ?_;refine S4 ?_;refine KA 71 (.bool false) J (by rw [(show(!decide (Vw rs=Vw rs)) =false by simp)]) ?_;refine S3 ?_;refine o9 (jN WC J J (fun w1 hs=>yy _ _ _ (Vw rs) w1 (Kn (k:=4) J w1 hs) Om)) ?_;refine S4 ?_;refine KA 76 (.bool false) J (by rw [(show(!YS (Vw rs)) =false by rw [hisn];rfl)]) ?_;refine S6 ?_;refine yS J ((show decide (G5 rs<0) =false by rw [hN];simp)) ?_;refine S4 ?_
   refine Gg fun w1 hs1=> ?_
   have hC3:w1.cell? ⟨b1,0,none⟩ =some (.slice rA rs.length rc) :=qr (k:=1) (off:=0) rfl rfl w1 hs1
   have hB3:b1<w1.heap.size:=JE (hs1.cel (k:=1) rfl)
   have hC4:=jO (k:=2) rfl w1 hs1
   have hB4:b2<w1.heap.size:=JE (hs1.cel (k:=2) rfl)
   have hC7:w1.cell? ⟨b3,0,none⟩ =some (.slice sA (Vw rs).length sc) :=qr (k:=5) (off:=0) rfl rfl w1 hs1
   have hB7:b3<w1.heap.size:=JE (hs1.cel (k:=5) rfl)
   have hG:Rings w1 rA rs.length rs:=Kn (k:=0) rfl w1 hs1
   have hG2:Rings w1 sA (Vw rs).length (Vw rs) :=Kn (k:=4) rfl w1 hs1
   have hH:Pts w1 hA (xl rs).length (xl rs) :=OI (k:=3) rfl w1 hs1
   have hO:=hs1.fin
   have hmem:∀x∈Vw rs,∀z∈x,z∈xl rs:=by rw [hR,←Ly hreg];exact hF.mem
   obtain ⟨S,hS⟩ :∃S,S=Vw rs:=⟨_,rfl⟩
   obtain ⟨H,hHt⟩ :∃H,H=xl rs:=⟨_,rfl⟩
   rw [←hS] at hC7 hG2 hmem hreg2 htot2
   rw [←hHt] at hH hmem
   rw [←hS,←hHt]
   have hS4:=we hreg2
   have hH4:H.length≤1048576:=by rw [hHt,←Ly hreg];exact(XV hreg).len
   refine S4 ?_;refine qC (X:=Nat) (fun k=>k≤S.length) (fun k=>S.length- k) (fun k=> [(13, .int .i64 (k:Int))]) (kK [2,3,4,5,7,8]) 0 (DQ _) ⟨J,sz⟩ ?_
   intro k hk L hL1
   refine V5 ?_;refine a9 (jo J J JC (xH hC7 hB7)) ?_;refine S3 ?_;refine cZ (fun c3=> ?_) (fun c3=> ?_)
   ·have hlt:k<S.length:=Om
    obtain ⟨eb,eo,Ak,ck,rfl,hbB,hcell,hpts,hmax⟩ :=hG2.at_ hlt
    obtain ⟨r1,r2,r3⟩ :=vh (kC hreg2 hlt)
    refine S7 ?_;refine a9 (jo J J JC (xH hC7 hB7)) ?_;refine S3 ?_;refine a9 (jo J J JN (Lt hcell hbB)) ?_;refine S7 ?_;refine qC (X:=Nat) (fun j=>j≤(rg S k).length) (fun j=> (rg S k).length- j) (fun j=> [(15, .int .i64 (j:Int))]) (kK [2,3,4,5,7,8,13,80,81,82,83,84,87,88,89,90,91,92,14]) 0 (DQ _) ⟨J,sz⟩ ?_
    intro j hj L hL2
    refine V8 ?_;refine cZ (fun c4=> ?_) (fun c4=> ?_)
    ·have hjl:j< (rg S k).length:=Om
     obtain ⟨fb,fo,rfl,_⟩ :=hpts.2 Om
     obtain ⟨P,hP⟩ :∃P,P=pt (rg S k) j:=⟨_,rfl⟩
     have hPm:P∈H:=hmem (rg S k) (by rw [←Ku hlt];exact DR _) P (hP▸Y7 hjl)
     refine Dk ?_;refine qC (X:=Nat) (fun i=>i≤H.length) (fun i=>H.length- i) (fun i=> [(17, .int .i64 (i:Int)),(16, .bool ((H.take i).contains P))]) (kK [2,3,4,5,7,8,13,80,81,82,83,84,87,88,89,90,91,92,14,15,93,94,95,96]) 0 (DQ _) ⟨J,sz⟩ ?_
     intro i hi L hL3
     refine V8 ?_;refine cZ (fun c5=> ?_) (fun c5=> ?_)
     ·have hil:i<H.length:=Om
      obtain ⟨gb,go,rfl,_⟩ :=hH.2 Om
      have hcs:=yD hil P
      refine S5 ?_;refine qb 13 ?_;refine dK 0 ?_;refine dK 1 ?_;refine cV 106 (fun g1=> ?_) (fun g1=> ?_)
      ·refine fK 2 ?_;refine fK 3 ?_;refine fK 4 ?_;refine fK 5 ?_;refine fK 6 ?_;refine fK 7 ?_;refine fK 8 ?_;refine fK 9 ?_;refine fK 10 ?_;refine dK 11 ?_;refine dK 12 ?_;refine JI Kr ?_;refine S7 ?_
       exact qy hL3 (i+1) (Om) Om ⟨vi Om,vb (by rw [hcs,g1];rfl),sz⟩ (u9 J)
      ·refine eK 2 ?_;refine eK 3 ?_;refine eK 4 ?_;refine eZ 5 J (jj J J jh J (VS hH hil)) ?_;refine eK 6 ?_;refine eK 7 ?_;refine eK 8 ?_;refine eZ 9 J (jj J J jh J (VS hpts hjl)) ?_;refine eK 10 ?_;refine dK 11 ?_;refine dK 12 ?_;refine JI Kr ?_;refine S7 ?_
       exact qy hL3 (i+1) (Om) Om ⟨vi Om,vb (by rw [hcs,g1,hP];rfl),sz⟩ (u9 J)
     ·have hie:i=H.length:=Om
      subst hie
      rw [FR]
      refine Dg ?_;refine yS J ((show(!H.contains P) =false by rw [List.contains_iff_mem.2 hPm];rfl)) ?_;refine S8 ?_
      exact qy hL2 (j+1) (Om) Om ⟨vi Om,sz⟩ (u9 J)
    ·refine Dh ?_
     exact qy hL1 (k+1) (Om) Om ⟨vi Om,sz⟩ (u9 J)
   ·refine S7 ?_;refine a9 (jj J J jL J (xI hC3 hB3)) ?_;refine a9 (jj J J jh J (xJ hC4 hB4)) ?_;refine a9 (jN vf J J (fun w2 hs=>vk rA _ rc rs p.1 p.2 w2 (hG.over hs.fin) Om)) ?_;refine S8 ?_;refine a9 (jj J J jL J (xI hC7 hB7)) ?_;refine a9 (jj J J jh J (xJ hC4 hB4)) ?_;refine a9 (jN vf J J (fun w2 hs=>vk sA _ sc S p.1 p.2 w2 (hG2.over hs.fin) Om)) ?_;refine S8 ?_;refine a9 (jj J J jL J (xI hC3 hB3)) ?_;refine a9 (jj J J jh J (xJ hC4 hB4)) ?_;refine S2 ?_;refine a9 (jN UX J J (fun w2 hs=>xb rA _ rc rs p (G5 rs+1) w2 (hG.over hs.fin) hreg hp2 (by rw [hN];omega))) ?_;refine S1 ?_;refine cV 136 (fun g2=> ?_) (fun g2=> ?_)
    ·refine Dj ?_;refine jG J (.tmp J) ?_
     intro w' hs
     exact⟨rfl,hO.trans hs.fin⟩
    ·obtain ⟨z1,z2,z3⟩ :=Lz hreg hp2 hF (hN▸g2)
     rw [←hR,←hS] at z2 z3
     refine S4 ?_;refine KA 138 (.bool true) J (by rw [z1]) ?_;refine S6 ?_;refine KA 141 (.bool true) J (by rw [z2]) ?_;refine Di ?_;refine jG J (.tmp J) ?_
     intro w' hs
     exact⟨Qy (by rw [z1,z2,if_pos rfl,if_pos rfl,z3];simp),hO.trans hs.fin⟩
end Go.Proofs.Ytpncbbcmoiiipaa
