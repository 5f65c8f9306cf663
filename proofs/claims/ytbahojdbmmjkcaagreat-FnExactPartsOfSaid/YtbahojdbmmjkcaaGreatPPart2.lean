import Derived.Test.YtbahojdbmmjkcaaGreatPNestN
set_option linter.unusedVariables false
set_option linter.unusedSimpArgs false
namespace Go.Proofs.YtbahojdbmmjkcaaGreat
open Go Go.RowKit
variable {k:Nat} {ps:List Rp} {rs:List jK} {w w':World} {x:Option Addr×Nat} {xs:List Value}
set_option maxRecDepth 100000
set_option maxHeartbeats 4000000
theorem NN {j:Nat} (h:j<k) :nI (WG rs k) j=Kj rs j rs.length:=by simp [nI,WG,List.getD,h]
abbrev PaR (rs:List jK) (e:Ending) (w w':World) :Prop:=∃y: (Option Addr×Nat)×List Rp,e= .returned (.tuple #[.slice y.1.1 y.2.length y.1.2, .int .i64 (uC rs)])∧Over w w'∧(ZU y.1 y.2).P w'∧(∀b,(ZU y.1 y.2).F b→w.heap.size≤b)∧(ZU y.1 y.2).B=0∧y.2.map Rp.rs=En rs
theorem jaT (w:World) : (Res.many []).P w:=⟨fun r h=> (by cases h),List.Pairwise.nil⟩
theorem NS (h:¬uC rs=0) (ho:Over w w') :PaR rs (.returned (.tuple #[.slice none 0 0, .int .i64 (uC rs)])) w w':=by
 have e:En rs= [] :=by rw [En,if_neg h]
 refine⟨((none,0),[]),J,ho,?_,?_,J,e.symm⟩
 ·exact jel (Tt _ _ _ _) (jaT _) rfl rfl (fun b hb=>by have h2:=UL.1 hb;simp [FC] at h2)
 ·intro b hb
  obtain ⟨r,hr,hb⟩ :=hb
  rcases jgK.1 hr with rfl | hr
  ·have h2:=UL.1 hb;simp [FC] at h2
  ·rw [jgC.1 hr] at hb
   obtain ⟨s,hs,_⟩ :=hb
   cases hs
theorem NU {Rs:List Res} (hs:St ⟨w,[]⟩ Rs w') {kr kp B:Nat} (hr:Rs[kr]? =some (JQ B 26 1 ps.length (ps.map Rp.val) x)) (hp:Rs[kp]? =some (.many (ps.map Rp.res))) (hne:kr≠kp) (h0:uC rs=0) (hm:ps.map Rp.rs=yP rs rs.length) :
  PaR rs (.returned (.tuple #[.slice x.1 ps.length x.2, .int .i64 0])) w w':=by
 refine⟨(x,ps),by rw [h0],hs.fin,?_,?_,J,by rw [En,if_pos h0];exact hm⟩
 ·exact jel (Vy (hs.all kr _ hr).1 (jgw _)) (hs.all kp _ hp).1 rfl rfl (fun b h1=>hs.apart kr kp _ _ hne hr hp b h1)
 ·intro b hb
  obtain ⟨r,hr2,hb⟩ :=hb
  rcases jgK.1 hr2 with rfl | hr2
  ·exact((hs.all kr _ hr).2.1 b hb).elim id (fun h=>by cases h)
  ·rw [jgC.1 hr2] at hb
   exact((hs.all kp _ hp).2.1 b hb).elim id (fun h=>by cases h)
theorem Pm (ps:List Rp) (A:Option Addr) (c:Nat) (l:List Pc) :Res.many (ps.map Rp.res++ [Res.many [JQ 0 74 1 l.length (l.map Pc.val) (A,c),ke l]]) = .many ((ps++ [Rp.mk A c l]).map Rp.res) :=by rw [jgS];rfl
theorem GB (A:Option Addr) (n c:Nat) (rs:List jK) (w:World) (h:Rings w A n rs) (ht: (total rs:Int)≤1048577) :
  Calls Tryz.prog 22 #[qK A n c] w fun e w'=>PaR rs e w w':=by
 have hl:=h.1
 refine jT (m:=74) (Tryz.func22) J J (lb J) ?_;refine S3 ?_;refine aX (fun b1=> ?_);refine N7 ?_;refine JR xO (X:=Option Addr×Nat) (v:=fun x=> .tuple #[.slice x.1 (BO rs).length x.2, .int .i64 (uC rs)]) (r:=fun x=>GJ (BO rs) x) (H:=fun _=>True) J J J (lb J) (fun w1 hs=>Ov A n c rs w1 (h.over hs.fin) ht) ?_
 rintro⟨gA,gc⟩ -
 refine N12 ?_;refine cZ (fun c1=> ?_) (fun c1=> ?_)
 ·refine S8 ?_;refine qo J (.tmp J) (.tmp J) ?_
  intro w' hs
  exact NS c1 hs.fin
 ·have h0:uC rs=0:=c1
  obtain ⟨hr,hcl⟩ :=xa h0
  obtain ⟨_,e2⟩ :=Sv hr hcl
  have hn40:=vO hr
  have hng: (BO rs).length=n:= (by rw [e2,MF,hl])
  refine S5 ?_;refine kh (T:=26) (s:=1) ?_;refine n9 ?_;refine vu ?_;refine N10 ?_;refine JN (X:=Nat×(Option Addr×Nat)×List Rp) (fun x=>x.1≤n∧x.2.2.map Rp.rs=yP rs x.1) (fun x=>n- x.1) (fun x=> [(6, .slice x.2.1.1 x.2.2.length x.2.1.2),(23, .int .i64 (x.1:Int))]) (kK [1,2,3,4,21,22]) (fun x=> [.cel b1 26 [.slice A n c],GJ (BO rs) (gA,gc),JQ (Bs.N ⟨w,[]⟩) 26 1 x.2.2.length (x.2.2.map Rp.val) x.2.1, .many (x.2.2.map Rp.res)]) (0,(none,0),[]) (⟨jgw _,J⟩) ⟨J,sz⟩ (fun _ h=>h) ?_
  intro⟨i,⟨rA,rc⟩,ps⟩ hx L hL1
  refine v9 ?_;refine r9 ?_
  have hi:i≤n:=hx.1
  have hmp:ps.map Rp.rs=yP rs i:=hx.2
  refine S5 ?_;refine cZ (fun c2=> ?_) (fun c2=> ?_)
  ·have hlt:i<n:=Om
   obtain ⟨eb,eo,Ai,ci,rfl,ibB,icell,ipts,imax⟩ :=h.at_ hlt
   have hri:qG (rg rs i) =true:=Eo hr hl hlt
   have hpos:=qS hri
   have hok:=ZD hri
   have h4:=yC hri
   have hpsl:ps.length≤40:= (by have:=congrArg List.length hmp;rw [jgF] at this;have:=Fu rs i;omega)
   refine S8 ?_;refine a9 (jk J J JB J (uW icell ibB)) ?_;refine S1 ?_;refine aL (fun b2=> ?_);refine N9 ?_;refine JR ka (v:=fun x=> .slice x.1 (Jy (rg rs i)).length x.2) (r:=fun x=>JQ 0 96 4 (Jy (rg rs i)).length ((Jy (rg rs i)).flatMap jU) x) (H:=fun _=>True) J J J (lb J) (fun w1 hs=>qJ (kb Ai _ ci (rg rs i) w1 (ipts.over hs.fin) Om)) ?_
   rintro⟨eA,ec⟩ -
   refine n9 ?_;refine a9 ((jJ Uk J J (fun w1 hs=>Za eA _ ec (Jy (rg rs i)) w1 (QO (k:=5) J J w1 hs) Om hok)).as (congrArg _ (yI (rg rs i) (rg rs i).length))) ?_;refine S2 ?_;refine cZ (fun c3=> ?_) (fun c3=> ?_)
   ·refine S8 ?_
    exact j4 hL1 ((i+1,(rA,rc),ps)) (⟨show i+1≤n by omega,by rw [NT c3];exact hmp⟩) (by simp only;omega) ⟨J,vi Om,sz⟩ (u9 J)
   ·refine S7 ?_;refine JR QP (v:=fun x=> .slice x.1 _ x.2) (r:=fun x=>JQ 0 28 2 _ _ x) (H:=fun _=>True) J J J (lb J) (fun w1 hs=>qJ (Yw Ai _ ci (rg rs i) w1 (ipts.over hs.fin) hpos.1 Om)) ?_
    rintro⟨cA,cc⟩ -
    refine n9 ?_;refine a9 (J0 J J (kV J)) ?_;refine S1 ?_;refine Jw J J (qp J) J (lb J) (fun b3=> ?_);refine n9 ?_;refine a9 (J0 J J (wH J)) ?_;refine S1 ?_;refine aL (fun b4=> ?_);refine N3 ?_;refine Na 7 1 1 J J J (by unfold maxLen;omega) ?_;refine t9 ?_;refine y4 6 J J (fun plo phi=> ?_);refine t9 ?_;refine Dv 6 J J ?_;refine t9 ?_;refine S9 ?_;refine JN (X:=Nat×(Option Addr×Nat)×List Pc) (fun y=>y.1≤n∧y.2.2.map (·.xs) =rg rs i::zR rs i y.1) (fun y=>n- y.1) (fun y=> [(41, .int .i64 (y.1:Int))]) (kK [1,2,3,4,21,22,6,23,24,25,26,27,8,7,28,29,30,31,32,33,34,35,36,37,9,38,39,40]) (fun y=> [.cel b1 26 [.slice (some ⟨eb,eo,none⟩) n c],GJ (BO rs) (gA,gc),JQ (Bs.N ⟨w,[]⟩) 26 1 ps.length (ps.map Rp.val) (rA,rc), .many (ps.map Rp.res), .cel b2 74 [.slice Ai (rg rs i).length ci],JQ 0 96 4 (Jy (rg rs i)).length ((Jy (rg rs i)).flatMap jU) (eA,ec),ke y.2.2,JQ (Bs.N ⟨w,[]⟩) 74 1 y.2.2.length (y.2.2.map Pc.val) y.2.1, .cel b4 26 [.slice y.2.1.1 y.2.2.length y.2.1.2]]) (0,(some ⟨b3,0,none⟩,1),[⟨rg rs i,cA,cc,plo,phi⟩]) (⟨jgw _,J⟩) ⟨J,sz⟩ (fun _ h=>h) ?_
    intro⟨j,⟨qA,qc⟩,l⟩ hy L hL2
    refine v9 ?_;refine r9 ?_
    have hj:j≤n:=hy.1
    have hml:l.map (·.xs) =rg rs i::zR rs i j:=hy.2
    have hll:l.length≤41:= (by have:=congrArg List.length hml;rw [jgF,jgD] at this;have:=DR rs i j;omega)
    refine S5 ?_;refine cZ (fun c4=> ?_) (fun c4=> ?_)
    ·have hjl:j<n:=Om
     obtain ⟨fb,fo,Aj,cj,e0,jbB,jcell,jpts,jmax⟩ :=h.at_ hjl
     injection e0 with e0
     injection e0 with e1 e3 _
     subst e1 e3
     have hrj:qG (rg rs j) =true:=Eo hr hl hjl
     have hposj:=qS hrj
     have hokj:=ZD hrj
     have h4j:=yC hrj
     refine S8 ?_;refine a9 (jk J J JB J (uW jcell jbB)) ?_;refine S1 ?_;refine aL (fun b5=> ?_);refine N8 ?_;refine a9 (qj (j:=j) (fun w hs=> (hs.all 1 _ J).1) J J J ux Om) ?_;refine a9 ((jl J J jt (rdG (i:=0) (m:=1) (f:=jaD) (fun _=>rfl) (fun w hs=> (hs.all 1 _ J).1) (jbb (show j< (BO rs).length by omega)) Om J)).as (congrArg _ (show nI (BO rs) j=Kj rs j rs.length by rw [e2];exact NN Om))) ?_;refine S3 ?_;refine cV 52 (fun g1=> ?_) (fun g1=> ?_)
     ·refine S3 ?_;refine JR ka (v:=fun x=> .slice x.1 (Jy (rg rs j)).length x.2) (r:=fun x=>JQ 0 96 4 (Jy (rg rs j)).length ((Jy (rg rs j)).flatMap jU) x) (H:=fun _=>True) J J J (lb J) (fun w1 hs=>qJ (kb Aj _ cj (rg rs j) w1 (jpts.over hs.fin) Om)) ?_
      rintro⟨fA,fc⟩ -
      refine N1 ?_;refine o9 ((jJ Uk J J (fun w1 hs=>Za fA _ fc (Jy (rg rs j)) w1 (QO (k:=10) J J w1 hs) Om hokj)).as (congrArg _ (yI (rg rs j) (rg rs j).length))) ?_;refine S4 ?_;refine cZ (fun c5=> ?_) (fun c5=> ?_)
      ·refine S1 ?_;refine JS 7 ?_;refine dV 0 [1] ?_;refine dK 1 ?_;refine dV 2 [3,4] ?_;refine dV 3 [4] ?_;refine J8 (i:=4) J Dc Kr J ?_;refine JR QP (v:=fun x=> .slice x.1 _ x.2) (r:=fun x=>JQ 0 28 2 _ _ x) (H:=fun _=>True) J J J (lb J) (fun w1 hs=>qJ (Yw Aj _ cj (rg rs j) w1 (jpts.over hs.fin) hposj.1 Om)) ?_
       rintro⟨dA,dc⟩ -
       refine n9 ?_;refine WP (u9 J) ?_;refine d9 5 J [6] (u9 J) (J0 J J (kV J)) ?_;refine J8 (i:=6) J Dc Kr J ?_;refine Jw J J (qp J) J (lb J) (fun b6=> ?_);refine n9 ?_;refine JU (u9 J) ?_;refine KB J Kr J ?_;refine JV (k:=7) J jw Js Dc J Dc J J J (fun w' hs=>qR hs (k:=12) J J) (by simp [Value.oneCell']) (by unfold maxLen;omega) Om (jgx _) (fun r1=> ?_);refine n9 ?_;refine QH 10 [8] ?_;refine dK 8 ?_;refine J8 (i:=9) J Dc Kr J ?_;refine S1 ?_;refine JU (uw [8] J) ?_;refine JI Kr ?_;refine y4 11 J J (fun clo chi=> ?_);refine t9 ?_;refine KU 6 11 J J Dc J ?_;refine t9 ?_;refine S6 ?_
       exact j4 hL2 ((j+1,r1,l++ [⟨rg rs j,dA,dc,clo,chi⟩])) (⟨show j+1≤n by omega,by rw [jgS,hml,jan g1 c5];rfl⟩) (by simp only;omega) ⟨vi Om,sz⟩ (fun _ h=>h.upto ⟨J,J,J,J,J,J,(K9 _ _).symm,by rw [jgS,jgv];rfl,by rw [jgv];rfl,trivial⟩)
      ·refine S7 ?_
       exact j4 hL2 ((j+1,(qA,qc),l)) (⟨show j+1≤n by omega,by rw [Nq fun k=>by have:=k.2;unfold twA at this;omega];exact hml⟩) (by simp only;omega) ⟨vi Om,sz⟩ (u9 J)
     ·refine S14 ?_
      exact j4 hL2 ((j+1,(qA,qc),l)) (⟨show j+1≤n by omega,by rw [Nq fun k=>g1 k.1];exact hml⟩) (by simp only;omega) ⟨vi Om,sz⟩ (u9 J)
    ·have hjn:j=rs.length:=Om
     subst hjn
     refine S9 ?_;refine Jw J J (wJ J) J (lb J) (fun b7=> ?_);refine N1 ?_;refine JV (k:=2) J qM jD Dc J Dc J J J (fun w' hs=>qR hs (k:=9) J J) (by simp [Value.oneCell']) (by unfold maxLen;omega) Om (jgx _) (fun r2=> ?_);refine N2 ?_;refine O9 7 J ?_;refine t9 ?_;refine Dv 7 J J ?_;refine t9 ?_;refine KU 7 6 J J Dc J ?_;refine t9 ?_;refine KU 3 6 J J Dc J ?_;refine t9 ?_;refine S6 ?_
     exact j4 hL1 ((i+1,r2,ps++ [⟨qA,qc,l⟩])) (⟨show i+1≤n by omega,by rw [jgS,hmp,jbr (by unfold twA;omega)];exact congrArg (fun z=>yP rs i++ [z]) hml⟩) (by simp only;omega) ⟨(by rw [jgv];rfl),vi Om,sz⟩ (fun _ h=>h.upto ⟨J,J,by rw [jgS,jgv];rfl,(Pm ..).symm,trivial⟩)
  ·have hin:i=rs.length:=Om
   subst hin
   refine S12 ?_;refine qo J (.tmp J) (.tmp J) ?_
   intro w' hs
   exact NU (x:= (rA,rc)) hs (kr:=2) (kp:=3) rfl rfl Dc h0 hmp
theorem HU (A:Option Addr) (n c:Nat) (rs:List jK) (w:World) (h:Rings w A n rs) (ht: (total rs:Int)≤1048577) :
  Calls Tryz.prog 20 #[qK A n c] w fun e w'=>PaR rs e w w':=by
 have hl:=h.1
 refine jT (m:=76) (Tryz.func20) J J (lb J) ?_;refine S3 ?_;refine aX (fun b1=> ?_);refine N5 ?_;refine a9 (jJ Mr J J (fun w1 hs=>Tb _ _ A n c rs w1 (ql (k:=0) J J w1 hs) (JZ (hs.cel (k:=0) J)) (h.over hs.fin) ht)) ?_;refine S8 ?_;refine cZ (fun c1=> ?_) (fun c1=> ?_)
 ·refine S8 ?_;refine qo J (.tmp J) (.tmp J) ?_
  intro w' hs
  exact NS c1 hs.fin
 ·have h0:uC rs=0:=c1
  obtain ⟨hr,hcl⟩ :=xa h0
  have hn40:=vO hr
  refine S5 ?_;refine JR ZS (X:=Option Addr×Nat) (v:=fun x=> .slice x.1 n x.2) (r:=fun x=>JQ 0 2 1 n (Wk (WG rs n)) x) (H:=fun _=>True) J J J (lb J) (fun w1 hs=>Mb _ _ A n c rs w1 (ql (k:=0) J J w1 hs) (JZ (hs.cel (k:=0) J)) (h.over hs.fin) hr) ?_
  rintro⟨gA,gc⟩ -
  refine N5 ?_;refine Jw J J (YH) J (lb J) (fun b2=> ?_);refine vK 2 1 J J ?_;refine N2 ?_;refine vu ?_;refine t9 ?_;refine S6 ?_;refine JN (X:=Nat×(Option Addr×Nat)×List Rp) (fun x=>x.1≤n∧x.2.2.map Rp.rs=yP rs x.1) (fun x=>n- x.1) (fun x=> [(6, .slice x.2.1.1 x.2.2.length x.2.1.2),(7, .int .i64 (x.1:Int))]) (kK [1,2,3,5]) (fun x=> [.cel b1 26 [.slice A n c],JQ 0 2 1 n (Wk (WG rs n)) (gA,gc),JQ (Bs.N ⟨w,[]⟩) 26 1 x.2.2.length (x.2.2.map Rp.val) x.2.1, .many (x.2.2.map Rp.res)]) (0,(some ⟨b2,0,none⟩,0),[]) (⟨jgw _,J⟩) ⟨J,sz⟩ (fun _ h=>h) ?_
  intro⟨i,⟨rA,rc⟩,ps⟩ hx L hL1
  refine v9 ?_;refine r9 ?_
  have hi:i≤n:=hx.1
  have hmp:ps.map Rp.rs=yP rs i:=hx.2
  refine S9 ?_;refine cZ (fun c2=> ?_) (fun c2=> ?_)
  ·have hlt:i<n:=Om
   obtain ⟨eb,eo,Ai,ci,rfl,ibB,icell,ipts,imax⟩ :=h.at_ hlt
   have hri:qG (rg rs i) =true:=Eo hr hl hlt
   have hpos:=qS hri
   have hok:= (KM hri).2.2
   have hpsl:ps.length≤40:= (by have:=congrArg List.length hmp;rw [jgF] at this;have:=Fu rs i;omega)
   refine S12 ?_;refine a9 (jl J J JK (Ts icell ibB)) ?_;refine a9 (jJ U8 J J (fun w1 hs=>xy Ai _ ci (rg rs i) w1 (ipts.over hs.fin) Om hok)) ?_;refine S2 ?_;refine cZ (fun c3=> ?_) (fun c3=> ?_)
   ·refine S9 ?_
    exact j4 hL1 ((i+1,(rA,rc),ps)) (⟨show i+1≤n by omega,by rw [NT c3];exact hmp⟩) (by simp only;omega) ⟨J,vi Om,sz⟩ (u9 J)
   ·refine S9 ?_;refine JR Y3 (X:=Option Addr×Nat) (v:=fun x=> .agg #[.slice x.1 (rg rs i).length x.2]) (r:=fun x=>JQ 0 28 2 (rg rs i).length ((rg rs i).flatMap Ju) x) (H:=fun _=>True) J J J (lb J) (fun w1 hs=>L6 _ _ Ai _ ci (rg rs i) w1 (CP icell ibB w1 hs) (jgA ibB hs.fin.size) (ipts.over hs.fin) hpos.1 Om) ?_
    rintro⟨cA,cc⟩ -
    refine N1 ?_;refine Jw J J (qp J) J (lb J) (fun b3=> ?_);refine n9 ?_;refine a9 (J0 J J (wH J)) ?_;refine S1 ?_;refine aL (fun b4=> ?_);refine N3 ?_;refine Na 5 1 1 J J J (by unfold maxLen;omega) ?_;refine t9 ?_;refine y4 4 J J (fun plo phi=> ?_);refine t9 ?_;refine Dv 4 J J ?_;refine t9 ?_;refine S6 ?_;refine JN (X:=Nat×(Option Addr×Nat)×List Pc) (fun y=>y.1≤n∧y.2.2.map (·.xs) =rg rs i::zR rs i y.1) (fun y=>n- y.1) (fun y=> [(9, .int .i64 (y.1:Int))]) (kK [1,2,3,5,6,7,16,17,18,19,20,23,24,25,26,27,28,29,30,31,32,33,34,35,36,37,8]) (fun y=> [.cel b1 26 [.slice (some ⟨eb,eo,none⟩) n c],JQ 0 2 1 n (Wk (WG rs n)) (gA,gc),JQ (Bs.N ⟨w,[]⟩) 26 1 ps.length (ps.map Rp.val) (rA,rc), .many (ps.map Rp.res),ke y.2.2,JQ (Bs.N ⟨w,[]⟩) 74 1 y.2.2.length (y.2.2.map Pc.val) y.2.1, .cel b4 26 [.slice y.2.1.1 y.2.2.length y.2.1.2]]) (0,(some ⟨b3,0,none⟩,1),[⟨rg rs i,cA,cc,plo,phi⟩]) (⟨jgw _,J⟩) ⟨J,sz⟩ (fun _ h=>h) ?_
    intro⟨j,⟨qA,qc⟩,l⟩ hy L hL2
    refine v9 ?_;refine r9 ?_
    have hj:j≤n:=hy.1
    have hml:l.map (·.xs) =rg rs i::zR rs i j:=hy.2
    have hll:l.length≤41:= (by have:=congrArg List.length hml;rw [jgF,jgD] at this;have:=DR rs i j;omega)
    refine S9 ?_;refine cZ (fun c4=> ?_) (fun c4=> ?_)
    ·have hjl:j<n:=Om
     obtain ⟨fb,fo,Aj,cj,e0,jbB,jcell,jpts,jmax⟩ :=h.at_ hjl
     injection e0 with e0
     injection e0 with e1 e3 _
     subst e1 e3
     have hrj:qG (rg rs j) =true:=Eo hr hl hjl
     have hposj:=qS hrj
     have hokj:= (KM hrj).2.2
     refine S8 ?_;refine a9 (qj (j:=j) (fun w hs=> (hs.all 1 _ J).1) J J J ux hjl) ?_;refine a9 ((jl J J jt (rdG (i:=0) (m:=1) (f:=jaD) (fun _=>rfl) (fun w hs=> (hs.all 1 _ J).1) (jbb (show j< (WG rs n).length by rw [MF];exact hjl)) Om J)).as (congrArg _ (NN (rs:=rs) hjl))) ?_;refine S3 ?_;refine cV 51 (fun g1=> ?_) (fun g1=> ?_)
     ·refine S11 ?_;refine o9 (jl J J JK (Ts jcell jbB)) ?_;refine h9 ?_;refine o9 (jJ U8 J J (fun w1 hs=>xy Aj _ cj (rg rs j) w1 (jpts.over hs.fin) Om hokj)) ?_;refine S4 ?_;refine cZ (fun c5=> ?_) (fun c5=> ?_)
      ·refine S1 ?_;refine JS 8 ?_;refine dV 0 [1] ?_;refine dK 1 ?_;refine dV 2 [3,5,6] ?_;refine dV 3 [5,6] ?_;refine dV 4 [5,6] ?_;refine dV 5 [6] ?_;refine J8 (i:=6) J Dc Kr J ?_;refine JR Y3 (X:=Option Addr×Nat) (v:=fun x=> .agg #[.slice x.1 (rg rs j).length x.2]) (r:=fun x=>JQ 0 28 2 (rg rs j).length ((rg rs j).flatMap Ju) x) (H:=fun _=>True) J J J (lb J) (fun w1 hs=>L6 _ _ Aj _ cj (rg rs j) w1 (CP jcell jbB w1 hs) (jgA jbB hs.fin.size) (jpts.over hs.fin) hposj.1 Om) ?_
       rintro⟨dA,dc⟩ -
       refine n9 ?_;refine WP (u9 J) ?_;refine J8 (i:=7) J Dc Kr J ?_;refine Jw J J (qp J) J (lb J) (fun b5=> ?_);refine n9 ?_;refine JU (u9 J) ?_;refine KB J Kr J ?_;refine JV (k:=5) J jw Js Dc J Dc J J J (fun w' hs=>qR hs (k:=8) J J) (by simp [Value.oneCell']) (by unfold maxLen;omega) Om (jgx _) (fun r1=> ?_);refine n9 ?_;refine QH 11 [6] ?_;refine dK 9 ?_;refine J8 (i:=10) J Dc Kr J ?_;refine S1 ?_;refine JU (uw [6] J) ?_;refine JI Kr ?_;refine y4 7 J J (fun clo chi=> ?_);refine t9 ?_;refine KU 4 7 J J Dc J ?_;refine t9 ?_;refine S7 ?_
       exact j4 hL2 ((j+1,r1,l++ [⟨rg rs j,dA,dc,clo,chi⟩])) (⟨show j+1≤n by omega,by rw [jgS,hml,jan g1 c5];rfl⟩) (by simp only;omega) ⟨vi Om,sz⟩ (fun _ h=>h.upto ⟨J,J,J,J,(K9 _ _).symm,by rw [jgS,jgv];rfl,by rw [jgv];rfl,trivial⟩)
      ·refine S8 ?_
       exact j4 hL2 ((j+1,(qA,qc),l)) (⟨show j+1≤n by omega,by rw [Nq fun k=>by have:=k.2;unfold twA at this;omega];exact hml⟩) (by simp only;omega) ⟨vi Om,sz⟩ (u9 J)
     ·refine S19 ?_
      exact j4 hL2 ((j+1,(qA,qc),l)) (⟨show j+1≤n by omega,by rw [Nq fun k=>g1 k.1];exact hml⟩) (by simp only;omega) ⟨vi Om,sz⟩ (u9 J)
    ·have hjn:j=rs.length:=Om
     subst hjn
     refine S9 ?_;refine Jw J J (wJ J) J (lb J) (fun b6=> ?_);refine N1 ?_;refine JV (k:=2) J qM jD Dc J Dc J J J (fun w' hs=>qR hs (k:=7) J J) (by simp [Value.oneCell']) (by unfold maxLen;omega) Om (jgx _) (fun r2=> ?_);refine N2 ?_;refine O9 5 J ?_;refine t9 ?_;refine Dv 5 J J ?_;refine t9 ?_;refine KU 5 4 J J Dc J ?_;refine t9 ?_;refine KU 3 4 J J Dc J ?_;refine t9 ?_;refine S7 ?_
     exact j4 hL1 ((i+1,r2,ps++ [⟨qA,qc,l⟩])) (⟨show i+1≤n by omega,by rw [jgS,hmp,jbr (by unfold twA;omega)];exact congrArg (fun z=>yP rs i++ [z]) hml⟩) (by simp only;omega) ⟨(by rw [jgv];rfl),vi Om,sz⟩ (fun _ h=>h.upto ⟨J,J,by rw [jgS,jgv];rfl,(Pm ..).symm,trivial⟩)
  ·have hin:i=rs.length:=Om
   subst hin
   refine S12 ?_;refine qo J (.tmp J) (.tmp J) ?_
   intro w' hs
   exact NU (x:= (rA,rc)) hs (kr:=2) (kp:=3) rfl rfl Dc h0 hmp
theorem Gn (h:k<ps.length) : (ps.map Rp.rs)[k]? =some (WR ps k).rs:=by rw [List.getElem?_map,zK h];rfl
theorem jdR {qs:List Rp} (h:ps.map Rp.rs=qs.map Rp.rs) (hk:k<ps.length) :k<qs.length∧(WR ps k).rs= (WR qs k).rs∧(WR ps k).l.length= (WR qs k).l.length:=by
 have hl:qs.length=ps.length:=by have:=congrArg List.length h;simpa using this.symm
 have h1:=Gn hk
 rw [h,Gn (show k<qs.length by omega)] at h1
 injection h1 with h1
 refine⟨by omega,h1.symm,?_⟩
 rw [←Rp.rs_len,←Rp.rs_len,h1]
theorem Y9 (h: (ZU x ps).P w) (hO:Over w w') : (ZU x ps).P w':= (ZU x ps).dep w w' h hO.size fun b hb _=>hO.out.block b hb
theorem ML {B T n:Nat} {off:Nat} {v:Value} (h: (JQ B T 1 n xs x).P w) (hv:xs[k]? =some v) (he:off=k*1+0) :w.cell? ⟨Vl x.1,off,none⟩ =some v:=by
 rw [he,jhn]
 exact zf h hv
section
variable {w:World} {Rs:List Res}
theorem jf4 (h: (ZU x ps).P w) {off:Nat} (hk:k<ps.length) (he:off=k*1) :∀w',St ⟨w,[]⟩ Rs w'→∀q u,[(WR ps k).val][q]? =some u→w'.cell? ⟨Vl x.1,off+q,none⟩ =some u:=fun w' hs q u hq=>by
 match q,hq with
 | 0,hq=>
  simp at hq
  subst hq
  refine ML (k:=k) (Fx (Y9 h hs.fin)) ?_ Om
  rw [List.getElem?_map,zK hk]
  rfl
end
theorem uI (x y:Option Addr×Nat) (ps qs:List Rp) (w:World) (hx: (ZU x ps).P w) (hy: (ZU y qs).P w) (he:ps.map Rp.rs=qs.map Rp.rs) (hsm:∀s∈ps.map Rp.rs,smallR s) (hl:ps.length≤100000) :
  Calls Tryz.prog 23 #[.slice x.1 ps.length x.2, .slice y.1 qs.length y.2] w fun e w'=>e= .returned (.bool true)∧Over w w':=by
 have hq:qs.length=ps.length:=by have:=congrArg List.length he;simpa using this.symm
 rw [hq]
 refine jT (m:=27) (Tryz.func23) J J (lb J) ?_;refine S13 ?_;refine vJ J (XX _) ?_;refine S8 ?_;refine J9 (X:=Nat) (fun k=>k≤ps.length) (fun k=>ps.length- k) (fun k=> [(5, .int .i64 (k:Int))]) (kK [0,1,4]) 0 (jgw _) ⟨J,sz⟩ ?_
 intro k hk L hL1
 refine V8 ?_;refine cZ (fun c1=> ?_) (fun c1=> ?_)
 ·have hlt:k<ps.length:=Om
  obtain ⟨hlq,hrs,hll⟩ :=jdR he hlt
  have hsk:smallR (WR ps k).rs:=hsm _ (List.mem_of_getElem? (Gn hlt))
  refine S6 ?_;refine JS 10 ?_;refine dK 0 ?_;refine dK 1 ?_;refine dZ 2 J (qj (j:=k) (fun w hs=>Fx (Y9 hx hs.fin)) J J J qM hlt) ?_;refine dZ 3 J (jk J J jI J (jf4 hx hlt Om)) ?_;refine dK 4 ?_;refine dK 5 ?_;refine dZ 6 J (qj (j:=k) (fun w hs=>hq▸Fx (Y9 hy hs.fin)) J J J qM hlt) ?_;refine dZ 7 J (jk J J jI J (jf4 hy hlq Om)) ?_;refine dZ 8 J (jJ U7 J J (fun w1 hs=>by unfold Rp.val;rw [←hll];exact Zd _ _ _ _ _ (WR ps k).rs w1 (MM (Pb (Xd (Y9 hx hs.fin)) hlt) hsk) (by rw [hll];have:=MM (Pb (Xd (Y9 hy hs.fin)) hlq) (hrs▸hsk);rw [←hrs] at this;exact this) (jhA hsk.total Dc))) ?_;refine dK 9 ?_;refine JI Kr ?_;refine S1 ?_;refine vJ J (J) ?_;refine S8 ?_
  exact JY hL1 (k+1) Om Om ⟨vi Om,sz⟩ (u9 J)
 ·refine S10 ?_;refine jL J (.tmp J) ?_
  intro w' hs
  exact⟨rfl,hs.fin⟩
end Go.Proofs.YtbahojdbmmjkcaaGreat
