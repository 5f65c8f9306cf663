import Derived.Test.YtbahojdbmmjkcaaGreatPNestW
import Derived.Test.YtbahojdbmmjkcaaGreatPTo
import Derived.Test.YtbahojdbmmjkcaaGreatPSnapped
import Derived.Shelf.Bits.Mul64
import Derived.Laws.BitsAllLaws
import Derived.Test.YtbahojdbmmjkcaaGreatPSimp
import Derived.Test.YtbahojdbmmjkcaaGreatPOrd
import Derived.Test.YtbahojdbmmjkcaaGreatPBrd2
set_option linter.unusedVariables false
set_option linter.unusedSimpArgs false
namespace Go.Proofs.YtbahojdbmmjkcaaGreat
open Go Go.RowKit
variable {b k:Nat} {cs:List Value} {rs:List jK} {v:Value} {w:World} {x:Option Addr×Nat} {xs:List (Int×Int)}
set_option maxRecDepth 100000
set_option maxHeartbeats 4000000
abbrev jaD (i:Int) :List Value:= [.int .i64 i]
abbrev Wk (l:List Int) :List Value:=l.flatMap jaD
abbrev GJ (l:List Int) (x:Option Addr×Nat) :Res:=JQ 0 2 1 l.length (Wk l) x
theorem NW {i j:Nat} (hj:j≤rs.length) (h:0≤Kj rs i j) :∃p:Nat,Kj rs i j= (p:Int)∧p<rs.length:=by
 have:=jbt rs i j
 exact⟨(Kj rs i j).toNat,by omega,by omega⟩
theorem jen {i j p:Nat} (hp:Kj rs i j= (p:Int)) (h:zP (rg rs p) (rg rs j) =true) :zP (rg rs (Kj rs i j).toNat) (rg rs j) =true:=by rw [hp];exact h
theorem jbu {i j p:Nat} (hp:Kj rs i j= (p:Int)) (h:zP (rg rs p) (rg rs j) =false) :¬(Kj rs i j<0∨zP (rg rs (Kj rs i j).toNat) (rg rs j) =true) :=by
 rw [hp]
 intro k
 rcases k with k | k
 ·omega
 ·rw [show((p:Int)).toNat=p from rfl,h] at k;cases k
theorem Eo (hr:JW rs=true) {n:Nat} (hl:rs.length=n) (h:k<n) :qG (rg rs k) =true:=vN hr Om
theorem NV (rs:List jK) (k:Nat) :Wk (WG rs k) ++ [.int .i64 (Kj rs k rs.length)] =Wk (WG rs (k+1)) :=by rw [CF];simp [Wk]
theorem CP {Rs:List Res} {o:Nat} (hc:w.cell? ⟨b,o+k,none⟩ =some v) (hb:b<w.heap.size) (w':World) (hs:St ⟨w,[]⟩ Rs w') :w'.cell? ⟨b,o+k*1,none⟩ =some v:=by rw [jhn];exact qP hc hb w' hs
theorem OP (A:Option Addr) (n c:Nat) (rs:List jK) (w:World) (h:Rings w A n rs) (hr:JW rs=true) :
  Calls Tryz.prog 94 #[qK A n c] w fun e w'=>∃x:Option Addr×Nat,e= .returned (.slice x.1 n x.2)∧Over w w'∧(JQ 0 2 1 n (Wk (WG rs n)) x).P w'∧(∀b,(JQ 0 2 1 n (Wk (WG rs n)) x).F b→w.heap.size≤b)∧(JQ 0 2 1 n (Wk (WG rs n)) x).B=0∧True:=by
 have hl:=h.1
 have hn40:=vO hr
 refine jT (m:=54) (Tryz.func94) J J (lb J) ?_;refine S3 ?_;refine aX (fun b1=> ?_);refine N5 ?_;refine kh (T:=2) (s:=1) ?_;refine N10 ?_;refine JN (X:=Nat×Option Addr×Nat) (fun x=>x.1≤n) (fun x=>n- x.1) (fun x=> [(3, .slice x.2.1 x.1 x.2.2),(12, .int .i64 (x.1:Int))]) (kK [1,2,10,11]) (fun x=> [.cel b1 26 [.slice A n c],JQ (Bs.N ⟨w,[]⟩) 2 1 x.1 (Wk (WG rs x.1)) x.2]) (0,none,0) (jgw _) ⟨J,sz⟩ (fun _ h=>h) ?_
 intro⟨i,rA,rc⟩ hx L hL1
 refine v9 ?_;refine r9 ?_
 have hi:i≤n:=hx
 refine S5 ?_;refine cZ (fun c1=> ?_) (fun c1=> ?_)
 ·have hlt:i<n:=Om
  obtain ⟨eb,eo,Ai,ci,rfl,ibB,icell,ipts,imax⟩ :=h.at_ hlt
  refine S8 ?_;refine a9 (jk J J JB J (uW icell ibB)) ?_;refine S1 ?_;refine aL (fun b2=> ?_);refine N17 ?_;refine J9 (X:=Nat) (fun j=>j≤n) (fun j=>n- j) (fun j=> [(6, .int .i64 (Kj rs i j)),(20, .int .i64 (j:Int))]) (kK [1,2,10,11,3,12,13,14,15,16,5,4,17,18,19]) 0 (jgw _) ⟨J,sz⟩ ?_
  intro j hj L hL2
  refine V5 ?_;refine cZ (fun c2=> ?_) (fun c2=> ?_)
  ·have hjl:j<n:=Om
   obtain ⟨fb,fo,Aj,cj,e0,jbB,jcell,jpts,jmax⟩ :=h.at_ hjl
   injection e0 with e0
   injection e0 with e1 e2 _
   subst e1 e2
   refine S8 ?_;refine a9 (jk J J JB J (uW jcell jbB)) ?_;refine S1 ?_;refine aL (fun b3=> ?_);refine N6 ?_;refine JS 21 ?_;refine dK 0 ?_;refine dK 1 ?_;refine dK 2 ?_;refine dK 3 ?_;refine cV 28 (fun g1=> ?_) (fun g1=> ?_)
   ·have hne:j≠i:=by omega
    refine eK 4 ?_;refine eK 5 ?_;refine eZ 6 J (jJ uN J J (fun w1 hs=>ze Aj _ cj (rg rs j) Ai _ ci (rg rs i) w1 (jpts.over hs.fin) (ipts.over hs.fin) (Eo hr hl hjl) (Eo hr hl hlt))) ?_;refine dK 7 ?_;refine dK 8 ?_;refine cV 33 (fun g2=> ?_) (fun g2=> ?_)
    ·refine eK 9 ?_;refine eK 10 ?_;refine eK 11 ?_;refine cV 36 (fun g3=> ?_) (fun g3=> ?_)
     ·refine fK 12 ?_;refine fK 13 ?_;refine fK 14 ?_;refine fK 15 ?_;refine fK 16 ?_;refine fK 17 ?_;refine fK 18 ?_;refine eK 19 ?_;refine dK 20 ?_;refine JI Kr ?_;refine S12 ?_
      exact JY hL2 (j+1) (Om) Om ⟨vi (by rw [Lb hne g2 (.inl g3)]),vi Om,sz⟩ (u9 J)
     ·obtain ⟨p,hp,hpn⟩ :=NW (i:=i) (show j≤rs.length by omega) Om
      obtain ⟨gb,go,Ap,cp,e0,pbB,pcell,ppts,pmax⟩ :=h.at_ (show p<n by omega)
      injection e0 with e0
      injection e0 with e1 e2 _
      subst e1 e2
      refine eK 12 ?_;refine eK 13 ?_;refine eZ 14 J ((ja J J).as (congrArg _ hp)) ?_;refine eK 15 ?_;refine eZ 16 J (jk J J JB J (uW pcell pbB)) ?_;refine eK 17 ?_;refine eZ 18 J (jJ uN J J (fun w1 hs=>ze Ap _ cp (rg rs p) Aj _ cj (rg rs j) w1 (ppts.over hs.fin) (jpts.over hs.fin) (Eo hr hl Om) (Eo hr hl hjl))) ?_;refine eK 19 ?_;refine dK 20 ?_;refine JI Kr ?_;refine S1 ?_;refine cZ (fun c3=> ?_) (fun c3=> ?_)
      ·refine S10 ?_
       exact JY hL2 (j+1) (Om) Om ⟨vi (by rw [Lb hne g2 (.inr (jen hp c3))]),vi Om,sz⟩ (u9 J)
      ·refine S7 ?_
       exact JY hL2 (j+1) (Om) Om ⟨vi (by rw [Gd fun k=>jbu hp c3 k.2]),vi Om,sz⟩ (u9 J)
    ·refine fK 9 ?_;refine fK 10 ?_;refine fK 11 ?_;refine Kx (i:=12) J Kr Kr Kr [] Kr (fun _ _ _ h=>h) J J J J J Dc (u9 J) ?_;refine Kx (i:=13) J Kr Kr Kr [] Kr (fun _ _ _ h=>h) J J J J J Dc (u9 J) ?_;refine Kx (i:=14) J Kr Kr Kr [] Kr (fun _ _ _ h=>h) J J J J J Dc (u9 J) ?_;refine Kx (i:=15) J Kr Kr Kr [] Kr (fun _ _ _ h=>h) J J J J J Dc (u9 J) ?_;refine Kx (i:=16) J Kr Kr Kr [] Kr (fun _ _ _ h=>h) J J J J J Dc (u9 J) ?_;refine Kx (i:=17) J Kr Kr Kr [] Kr (fun _ _ _ h=>h) J J J J J Dc (u9 J) ?_;refine Kx (i:=18) J Kr Kr Kr [] Kr (fun _ _ _ h=>h) J J J J J Dc (u9 J) ?_;refine fK 19 ?_;refine dK 20 ?_;refine JI Kr ?_;refine S9 ?_
     exact JY hL2 (j+1) (Om) Om ⟨vi (by rw [Gd fun k=>by have:=k.1.2;rw [g2] at this;cases this]),vi Om,sz⟩ (u9 rfl)
   ·have hne:j=i:=by omega
    refine fK 4 ?_;refine fK 5 ?_;refine fK 6 ?_;refine dK 7 ?_;refine dK 8 ?_;refine fK 9 ?_;refine fK 10 ?_;refine fK 11 ?_;refine Kx (i:=12) J Kr Kr Kr [] Kr (fun _ _ _ h=>h) J J J J J Dc (u9 J) ?_;refine Kx (i:=13) J Kr Kr Kr [] Kr (fun _ _ _ h=>h) J J J J J Dc (u9 J) ?_;refine Kx (i:=14) J Kr Kr Kr [] Kr (fun _ _ _ h=>h) J J J J J Dc (u9 J) ?_;refine Kx (i:=15) J Kr Kr Kr [] Kr (fun _ _ _ h=>h) J J J J J Dc (u9 J) ?_;refine Kx (i:=16) J Kr Kr Kr [] Kr (fun _ _ _ h=>h) J J J J J Dc (u9 J) ?_;refine Kx (i:=17) J Kr Kr Kr [] Kr (fun _ _ _ h=>h) J J J J J Dc (u9 J) ?_;refine Kx (i:=18) J Kr Kr Kr [] Kr (fun _ _ _ h=>h) J J J J J Dc (u9 J) ?_;refine fK 19 ?_;refine dK 20 ?_;refine JI Kr ?_;refine S9 ?_
    exact JY hL2 (j+1) (Om) Om ⟨vi (by rw [Gd fun k=>k.1.1 hne]),vi Om,sz⟩ (u9 J)
  ·have hjn:j=rs.length:=Om
   subst hjn
   refine S9 ?_;refine Jw J J (US J) J (lb J) (fun b4=> ?_);refine N1 ?_;refine JV (k:=1) J ux QI Dc J Dc J J J (fun w' hs=>qR hs (k:=3) J J) (by simp [Value.oneCell']) (by unfold maxLen;omega) Om (jgx _) (fun r1=> ?_);refine N8 ?_
   exact j4 hL1 ((i+1,r1)) ((show i+1≤n by omega)) (by simp only;omega) ⟨J,vi Om,sz⟩ (fun _ h=>h.upto ⟨J,by rw [←NV],trivial⟩)
 ·have hin:i=n:=Om
  subst hin
  refine S11 ?_;refine jL J (.tmp J) ?_
  intro w' hs
  exact⟨(rA,rc),rfl,hs.fin,Vy (hs.all 1 _ rfl).1 (jgw _),fun b hb=> ((hs.all 1 _ rfl).2.1 b hb).elim id (fun h=>by cases h),sz⟩
theorem Mb (bb oo:Nat) (A:Option Addr) (n c:Nat) (rs:List jK) (w:World) (hcell0:w.cell? ⟨bb,oo,none⟩ =some (.slice A n c)) (hbb:bb<w.heap.size) (h:Rings w A n rs) (hr:JW rs=true) :
  Calls Tryz.prog 70 #[.pointer (some ⟨bb,oo,none⟩)] w fun e w'=>∃x:Option Addr×Nat,e= .returned (.slice x.1 n x.2)∧Over w w'∧(JQ 0 2 1 n (Wk (WG rs n)) x).P w'∧(∀b,(JQ 0 2 1 n (Wk (WG rs n)) x).F b→w.heap.size≤b)∧(JQ 0 2 1 n (Wk (WG rs n)) x).B=0∧True:=by
 have hl:=h.1
 have hn40:=vO hr
 refine jT (m:=68) (Tryz.func70) J J (lb J) ?_;refine S7 ?_;refine Jw J J (LG) J (lb J) (fun b1=> ?_);refine vK 0 1 J J ?_;refine N8 ?_;refine JN (X:=Nat×Option Addr×Nat) (fun x=>x.1≤n) (fun x=>n- x.1) (fun x=> [(3, .slice x.2.1 x.1 x.2.2),(4, .int .i64 (x.1:Int))]) (kK [0,2]) (fun x=> [JQ (Bs.N ⟨w,[]⟩) 2 1 x.1 (Wk (WG rs x.1)) x.2]) (0,some ⟨b1,0,none⟩,0) (jgw _) ⟨J,sz⟩ (fun _ h=>h) ?_
 intro⟨i,rA,rc⟩ hx L hL1
 refine v9 ?_;refine r9 ?_
 have hi:i≤n:=hx
 refine S7 ?_;refine a9 (jl J J Jz (Qn hcell0 hbb)) ?_;refine S3 ?_;refine cZ (fun c1=> ?_) (fun c1=> ?_)
 ·have hlt:i<n:=Om
  obtain ⟨eb,eo,Ai,ci,rfl,ibB,icell,ipts,imax⟩ :=h.at_ hlt
  refine S14 ?_;refine J9 (X:=Nat) (fun j=>j≤n) (fun j=>n- j) (fun j=> [(5, .int .i64 (Kj rs i j)),(6, .int .i64 (j:Int))]) (kK [0,2,3,4,8,9,10,11,12,13,14]) 0 (jgw _) ⟨J,sz⟩ ?_
  intro j hj L hL2
  refine V7 ?_;refine a9 (jl J J Jz (Qn hcell0 hbb)) ?_;refine S3 ?_;refine cZ (fun c2=> ?_) (fun c2=> ?_)
  ·have hjl:j<n:=Om
   obtain ⟨fb,fo,Aj,cj,e0,jbB,jcell,jpts,jmax⟩ :=h.at_ hjl
   injection e0 with e0
   injection e0 with e1 e2 _
   subst e1 e2
   refine S7 ?_;refine JS 19 ?_;refine dK 0 ?_;refine dK 1 ?_;refine dK 2 ?_;refine dK 3 ?_;refine cV 29 (fun g1=> ?_) (fun g1=> ?_)
   ·have hne:j=i:=by omega
    refine fK 4 ?_;refine fK 5 ?_;refine fK 6 ?_;refine fK 7 ?_;refine fK 8 ?_;refine fK 9 ?_;refine fK 10 ?_;refine fK 11 ?_;refine fK 12 ?_;refine fK 13 ?_;refine fK 14 ?_;refine fK 15 ?_;refine fK 16 ?_;refine fK 17 ?_;refine dK 18 ?_;refine JI Kr ?_;refine S11 ?_
    exact JY hL2 (j+1) (Om) Om ⟨vi (by rw [Gd fun k=>k.1.1 hne]),vi Om,sz⟩ (u9 J)
   ·have hne:j≠i:=by omega
    refine eK 4 ?_;refine eK 5 ?_;refine eK 6 ?_;refine eZ 7 J (jl J J Jz (Qn hcell0 hbb)) ?_;refine eK 8 ?_;refine eK 9 ?_;refine eK 10 ?_;refine eK 11 ?_;refine eK 12 ?_;refine eZ 13 J (jl J J Jz (Qn hcell0 hbb)) ?_;refine eK 14 ?_;refine eK 15 ?_;refine eZ 16 J (jJ Ur J J (fun w1 hs=>Zg _ _ _ _ Aj _ cj (rg rs j) Ai _ ci (rg rs i) w1 (CP jcell jbB w1 hs) (jgA jbB hs.fin.size) (CP icell ibB w1 hs) (jgA ibB hs.fin.size) (jpts.over hs.fin) (ipts.over hs.fin) (Eo hr hl hjl) (Eo hr hl hlt))) ?_;refine eK 17 ?_;refine dK 18 ?_;refine JI Kr ?_;refine S1 ?_;refine cZ (fun c3=> ?_) (fun c3=> ?_)
    ·refine S9 ?_
     exact JY hL2 (j+1) (Om) Om ⟨vi (by rw [Gd fun k=>by have:=k.1.2;rw [c3] at this;cases this]),vi Om,sz⟩ (u9 rfl)
    ·refine S4 ?_;refine JS 17 ?_;refine dK 0 ?_;refine dK 1 ?_;refine dK 2 ?_;refine cV 47 (fun g2=> ?_) (fun g2=> ?_)
     ·refine fK 3 ?_;refine fK 4 ?_;refine fK 5 ?_;refine fK 6 ?_;refine fK 7 ?_;refine fK 8 ?_;refine fK 9 ?_;refine fK 10 ?_;refine fK 11 ?_;refine fK 12 ?_;refine fK 13 ?_;refine fK 14 ?_;refine fK 15 ?_;refine dK 16 ?_;refine JI Kr ?_;refine S13 ?_
      exact JY hL2 (j+1) (Om) Om ⟨vi (by rw [Lb hne c3 (.inl g2)]),vi Om,sz⟩ (u9 J)
     ·obtain ⟨p,hp,hpn⟩ :=NW (i:=i) (show j≤rs.length by omega) Om
      obtain ⟨gb,go,Ap,cp,e0,pbB,pcell,ppts,pmax⟩ :=h.at_ (show p<n by omega)
      injection e0 with e0
      injection e0 with e1 e2 _
      subst e1 e2
      refine eK 3 ?_;refine eK 4 ?_;refine eK 5 ?_;refine eZ 6 J (jl J J Jz (Qn hcell0 hbb)) ?_;refine eZ 7 J ((ja J J).as (congrArg _ hp)) ?_;refine eK 8 ?_;refine eK 9 ?_;refine eK 10 ?_;refine eK 11 ?_;refine eZ 12 J (jl J J Jz (Qn hcell0 hbb)) ?_;refine eK 13 ?_;refine eK 14 ?_;refine eZ 15 J (jJ Ur J J (fun w1 hs=>Zg _ _ _ _ Ap _ cp (rg rs p) Aj _ cj (rg rs j) w1 (CP pcell pbB w1 hs) (jgA pbB hs.fin.size) (CP jcell jbB w1 hs) (jgA jbB hs.fin.size) (ppts.over hs.fin) (jpts.over hs.fin) (Eo hr hl Om) (Eo hr hl hjl))) ?_;refine dK 16 ?_;refine JI Kr ?_;refine S1 ?_;refine cZ (fun c4=> ?_) (fun c4=> ?_)
      ·refine S11 ?_
       exact JY hL2 (j+1) (Om) Om ⟨vi (by rw [Lb hne c3 (.inr (jen hp c4))]),vi Om,sz⟩ (u9 J)
      ·refine S8 ?_
       exact JY hL2 (j+1) (Om) Om ⟨vi (by rw [Gd fun k=>jbu hp c4 k.2]),vi Om,sz⟩ (u9 J)
  ·have hjn:j=rs.length:=Om
   subst hjn
   refine S9 ?_;refine Jw J J (US J) J (lb J) (fun b2=> ?_);refine N1 ?_;refine JV (k:=0) J ux QI Dc J Dc J J J (fun w' hs=>qR hs (k:=1) J J) (by simp [Value.oneCell']) (by unfold maxLen;omega) Om (jgx _) (fun r1=> ?_);refine N9 ?_
   exact j4 hL1 ((i+1,r1)) ((show i+1≤n by omega)) (by simp only;omega) ⟨J,vi Om,sz⟩ (fun _ h=>h.upto ⟨by rw [←NV],trivial⟩)
 ·have hin:i=n:=Om
  subst hin
  refine S11 ?_;refine jL J (.tmp J) ?_
  intro w' hs
  exact⟨(rA,rc),rfl,hs.fin,Vy (hs.all 0 _ rfl).1 (jgw _),fun b hb=> ((hs.all 0 _ rfl).2.1 b hb).elim id (fun h=>by cases h),sz⟩
def uC (rs:List jK) :Int:=if JW rs=true then(if ES rs=true then 0 else 6) else 1
def BO (rs:List jK) :List Int:=if JW rs=true then(if ES rs=true then WG rs rs.length else []) else []
theorem T6 (h:JW rs=false) :uC rs=1∧BO rs= [] :=by simp [uC,BO,h]
theorem O7 (h:JW rs=true) (h2:ES rs=false) :uC rs=6∧BO rs= [] :=by simp [uC,BO,h,h2]
theorem Sv (h:JW rs=true) (h2:ES rs=true) :uC rs=0∧BO rs=WG rs rs.length:=by simp [uC,BO,h,h2]
theorem xa (h:uC rs=0) :JW rs=true∧ES rs=true:=by
 unfold uC at h
 split at h
 ·split at h
  ·exact⟨by assumption,by assumption⟩
  ·omega
 ·omega
section
variable {w:World} {Rs:List Res}
theorem jdL {o:Nat} (hc:w.cell? ⟨b,o,none⟩ =some v) (hb:b<w.heap.size) :∀w',St ⟨w,[]⟩ Rs w'→∀j u,[v][j]? =some u→w'.cell? ⟨b,o+j,none⟩ =some u:=fun w' hs j u hj=>by
 match j,hj with
 | 0,hj=>simp at hj;subst hj;exact Qn hc hb w' hs
end
theorem jet (h:JW rs=true) : (total rs:Int)≤1048576:=jhA (smallR.of h).total Dc
theorem Tb (bb oo:Nat) (A:Option Addr) (n c:Nat) (rs:List jK) (w:World) (hcell0:w.cell? ⟨bb,oo,none⟩ =some (.slice A n c)) (hbb:bb<w.heap.size) (h:Rings w A n rs) (ht: (total rs:Int)≤1048577) :
  Calls Tryz.prog 69 #[.pointer (some ⟨bb,oo,none⟩)] w fun e w'=>e= .returned (.int .i64 (uC rs))∧Over w w':=by
 refine jT (m:=11) (Tryz.func69) J J (lb J) ?_;refine S8 ?_;refine a9 (jJ WQ J J (fun w1 hs=>Cm bb oo A n c rs w1 (qP hcell0 hbb w1 hs) (jgA hbb hs.fin.size) (h.over hs.fin) ht)) ?_;refine S2 ?_;refine cZ (fun c1=> ?_) (fun c1=> ?_)
 ·refine S6 ?_;refine jL J (.tmp J) ?_
  intro w' hs
  exact⟨wm (T6 c1).1.symm,hs.fin⟩
 ·refine S7 ?_;refine a9 (jk J J jI J (jdL hcell0 hbb)) ?_;refine a9 (jJ HH J J (fun w1 hs=>HT A n c rs w1 (h.over hs.fin) (jet c1))) ?_;refine S2 ?_;refine cZ (fun c2=> ?_) (fun c2=> ?_)
  ·refine S6 ?_;refine jL J (.tmp J) ?_
   intro w' hs
   exact⟨wm (O7 c1 c2).1.symm,hs.fin⟩
  ·refine S7 ?_;refine jL J (.tmp J) ?_
   intro w' hs
   exact⟨wm (Sv c1 c2).1.symm,hs.fin⟩
abbrev NgR (rs:List jK) (e:Ending) (w w':World) :Prop:=∃x:Option Addr×Nat,e= .returned (.tuple #[.slice x.1 (BO rs).length x.2, .int .i64 (uC rs)])∧Over w w'∧(GJ (BO rs) x).P w'∧(∀b,(GJ (BO rs) x).F b→w.heap.size≤b)∧(GJ (BO rs) x).B=0∧True
theorem jbe {w':World} {k:Int} (h1:uC rs=k) (h2:BO rs= []) (ho:Over w w') :NgR rs (.returned (.tuple #[.slice none 0 0, .int .i64 k])) w w':=by
 refine⟨(none,0),by rw [h1,h2];rfl,ho,?_,?_,sz⟩
 ·rw [h2];exact Tt _ _ _ _
 ·rw [h2];intro b hb;have:=UL.1 hb;simp [FC] at this
theorem jfU {w':World} (h1:uC rs=0) (h2:BO rs=WG rs rs.length) (ho:Over w w') (hP: (JQ 0 2 1 rs.length (Wk (WG rs rs.length)) x).P w') (hF:∀b,(JQ 0 2 1 rs.length (Wk (WG rs rs.length)) x).F b→w.heap.size≤b) :NgR rs (.returned (.tuple #[.slice x.1 rs.length x.2, .int .i64 0])) w w':=by
 have e: (BO rs).length=rs.length:=by rw [h2,MF]
 exact⟨x,by rw [h1,e],ho,by unfold GJ;rw [e,h2];exact hP,by unfold GJ;rw [e,h2];exact hF,sz⟩
theorem Ov (A:Option Addr) (n c:Nat) (rs:List jK) (w:World) (h:Rings w A n rs) (ht: (total rs:Int)≤1048577) :
  Calls Tryz.prog 40 #[qK A n c] w fun e w'=>NgR rs e w w':=by
 have hl:=h.1
 refine jT (m:=12) (Tryz.func40) J J (lb J) ?_;refine S3 ?_;refine aX (fun b1=> ?_);refine N7 ?_;refine a9 (jJ Ka J J (fun w1 hs=>Hn A n c rs w1 (h.over hs.fin) ht)) ?_;refine S2 ?_;refine cZ (fun c1=> ?_) (fun c1=> ?_)
 ·refine S7 ?_;refine qo J (.tmp J) (.tmp J) ?_
  intro w' hs
  obtain ⟨e1,e2⟩ :=T6 c1
  exact jbe e1 e2 hs.fin
 ·refine S6 ?_;refine a9 (jJ Hy J J (fun w1 hs=>Ik A n c rs w1 (h.over hs.fin) (jet c1))) ?_;refine S2 ?_;refine cZ (fun c2=> ?_) (fun c2=> ?_)
  ·refine S7 ?_;refine qo J (.tmp J) (.tmp J) ?_
   intro w' hs
   obtain ⟨e1,e2⟩ :=O7 c1 c2
   exact jbe e1 e2 hs.fin
  ·obtain ⟨e1,e2⟩ :=Sv c1 c2
   subst hl
   refine S6 ?_;refine JR xR (X:=Option Addr×Nat) (v:=fun x=> .slice x.1 rs.length x.2) (r:=fun x=>JQ 0 2 1 rs.length (Wk (WG rs rs.length)) x) (H:=fun _=>True) J J J (lb J) (fun w1 hs=>OP A _ c rs w1 (h.over hs.fin) c1) ?_
   rintro⟨gA,gc⟩ -
   refine N4 ?_;refine qo J (.tmp J) (.tmp J) ?_
   intro w' hs
   exact jfU (x:= (gA,gc)) e1 e2 hs.fin (hs.all 1 _ rfl).1 (fun b hb=> ((hs.all 1 _ rfl).2.1 b hb).elim id (fun h=>by cases h))
def nI (l:List Int) (k:Nat) :Int:=l.getD k 0
theorem jbb {l:List Int} (h:k<l.length) :l[k]? =some (nI l k) :=by simp [nI,List.getD,h]
def dsq (a b:Pn) :Int:= (b.1- a.1) * (b.1- a.1) + (b.2- a.2) * (b.2- a.2)
def alg (a b p:Pn) :Int:= (p.1- a.1) * (b.1- a.1) + (p.2- a.2) * (b.2- a.2)
def jfS (a b p:Pn) (r:Int) :Bool:=
 if dsq a p≤r*r∨dsq b p≤r*r then true else if alg a b p≤0∨dsq a b≤alg a b p then false else decide (tn a b p*tn a b p≤r*r*dsq a b)
def jfW (a b p:Pn) :Int:=if a=b then dsq a p else max (tn a b p) (-tn a b p)
def Ps (a b:Pn) (r:Int) (xs:List (Int×Int)) :Nat→Int×Int
 | 0=> (-1,-1)
 | k+1=>if jfS a b (pt xs (k+1)) r=true then Ps a b r xs k else if(Ps a b r xs k).2<jfW a b (pt xs (k+1)) then(((k+1:Nat) :Int),jfW a b (pt xs (k+1))) else Ps a b r xs k
def far (r:Int) (xs:List (Int×Int)) :Int:= (Ps (pt xs 0) (pt xs (xs.length- 1)) r xs (xs.length- 2)).1
def okPath (xs:List (Int×Int)) :Prop:=xs.length≤402∧∀p∈xs,bd2 p
theorem okPath.at_ (h:okPath xs) (hk:k<xs.length) :bd2 (pt xs k) :=by
 have:=h.2 xs[k] (jgH hk)
 rwa [yq hk] at this
theorem okPath.take (h:okPath xs) (k:Nat) :okPath (xs.take k) :=⟨by rw [jgJ];have:=h.1;omega,fun p hp=>h.2 p (jg7 hp)⟩
theorem okPath.drop (h:okPath xs) (k:Nat) :okPath (xs.drop k) :=⟨by rw [jgQ];have:=h.1;omega,fun p hp=>h.2 p (jhh hp)⟩
section
variable {n:Nat} {env:List (Nat×Value)} {w0:Bs} {Rs:List Res} {K:Act→World→Prop}
theorem Na (k s m:Nat) (hX:w0.X= []) {U:Nat} (hk:Rs[k]? =some (.cel b U cs)) (hl:cs.length=m*s) (hm:m≤maxLen) (h:At n env w0 (Rs.set k (.row w0.N U s (.slice (some ⟨b,0,none⟩) m m) m cs)) K) :At n env w0 Rs K:=fun a w hf hs=>by
 have hlow:w0.N≤b:= ((hs.all k _ hk).2.1 b rfl).elim id (fun h=>by rw [hX] at h;cases h)
 refine h a w hf (hs.chg hk (fun hP=> ?_) (fun c hc=> ?_) J)
 ·exact⟨hl, .inr ⟨b,m,cs.toArray,rfl,hlow,hP,jgx _,hm,by simp [hl],by simp [←hl]⟩⟩
 ·have:some b=some c:=hc
  injection this with this
  exact this.symm
end
end Go.Proofs.YtbahojdbmmjkcaaGreat
namespace Go.Proofs.YtbahojdbmmjkcaaGreat
open Go Go.RowKit
variable {L:List Res} {i k:Nat} {w:World} {x:Option Addr×Nat} {xs:List Value}
theorem NH (h: (Res.many L).P w) {j:Nat} (hi:i<L.length) (hj:j<L.length) (hne:i≠j) (b:Nat) (h1: (L[i]).F b) :¬(L[j]).F b:=by
 have hp:=jho.1 h.2
 rcases jhj i j with hlt | hge
 ·exact hp i j hi hj hlt b h1
 ·exact fun h2=>hp j i hj hi Om b h2 h1
theorem xG {r r':Res} {w':World} (h: (Res.many L).P w) (hk:L[k]? =some r) (hw:Wrs r.F w w') (hP:r'.P w') (hF:∀b,r'.F b→r.F b) (hB:r'.B=0) : (Res.many (L.set k r')).P w':=by
 obtain ⟨hkl,hke⟩ :=List.getElem?_eq_some_iff.1 hk
 have old:∀i (hi:i<L.length),i≠k→(L[i]).P w'∧(L[i]).B=0:=fun i hi hne=>by
  obtain ⟨h1,h2⟩ :=h.1 _ (jgH hi)
  refine⟨(L[i]).dep w w' h1 hw.size fun b hb hor=>hw.block b hb fun hr=> ?_,h2⟩
  have h3: (L[i]).F b:=hor.elim (fun h4=>by rw [h2] at h4;omega) id
  exact NH h hi hkl hne b h3 (hke▸hr)
 refine⟨fun s hs=> ?_,jho.2 fun i j hi hj hij b h1 h2=> ?_⟩
 ·obtain ⟨i,hi,rfl⟩ :=jg1 hs
  rw [List.getElem_set]
  split
  ·exact⟨hP,hB⟩
  ·exact old i (by simpa using hi) Om
 ·simp only [jhy] at hi hj
  have e:∀q (hq:q<L.length) (hq2:q< (L.set k r').length),((L.set k r')[q]).F b→(L[q]).F b:=fun q hq hq2 hb=>by
   rw [List.getElem_set] at hb
   split at hb
   ·rename_i e;subst e;rw [hke];exact hF b hb
   ·exact hb
  exact NH h hi hj Om b (e i hi _ h1) (e j hj _ h2)
section
variable {n:Nat} {env:List (Nat×Value)} {w0:Bs} {Rs:List Res} {K:Act→World→Prop}
theorem Dv (k:Nat) {r:Res} (hk:Rs[k]? =some r) (hB:r.B=0) (h:At n env w0 (Rs.set k (.many [r])) K) :At n env w0 Rs K:=fun a w hf hs=>
 h a w hf (hs.chg hk (fun hP=>⟨fun s hs'=>by rw [jgC.1 hs'];exact⟨hP,hB⟩,jhL _ _⟩) (fun b hb=>by obtain ⟨s,hs',hb⟩ :=hb;rw [jgC.1 hs'] at hb;exact hb) rfl)
theorem O9 (k:Nat) {B T s m:Nat} (hk:Rs[k]? =some (JQ B T s m xs x)) (h:At n env w0 (Rs.set k (JQ 0 T s m xs x)) K) :At n env w0 Rs K:=fun a w hf hs=>
 h a w hf (hs.chg hk (fun hP=>Vy hP (jgw _)) (fun b hb=>hb) rfl)
end
structure Rp where
 A:Option Addr
 c:Nat
 l:List Pc
def Rp.rs (p:Rp) :List jK:=p.l.map (·.xs)
def Rp.val (p:Rp) :Value:= .slice p.A p.l.length p.c
abbrev Rp.row (p:Rp) :Res:=JQ 0 74 1 p.l.length (p.l.map Pc.val) (p.A,p.c)
def Rp.res (p:Rp) :Res:= .many [p.row,ke p.l]
theorem Rp.rs_len (p:Rp) :p.rs.length=p.l.length:=by simp [Rp.rs]
theorem jft {p:Rp} (h:p.res.P w) (hm:smallR p.rs) :OwnG 0 w.heap.size w p.A p.l.length p.rs:=by
 have hrow:w.ownsRow 0 74 1 (.slice p.A p.l.length p.c) p.l.length (p.l.map Pc.val) := (h.1 p.row (by simp)).1
 have hX:= (h.1 (ke p.l) (by simp)).1
 have hap:∀b,p.row.F b→¬(ke p.l).F b:=by have:=h.2;simpa using this
 rcases hrow.2 with⟨_,e⟩ |⟨g,cap,cur,e,hb,hg,hcap,hmax,hsz,htk⟩
 ·have:p.l= [] :=jgX e
  have e2:p.rs= [] :=by rw [Rp.rs,this];rfl
  rw [e,e2]
  exact OwnG.nil _
 ·injection e with e1 e2 e3
  rw [e1]
  have hF:p.row.F g:=by show Value.ownBlock (.slice p.A p.l.length p.c) =some g;rw [e1];rfl
  refine Ld (lo:=0) (o:=0) hg (jgw _) (fun j hj=> ?_) hX (hap g hF) (fun q _=>jgw _) (fun e he=> ?_)
  ·have hc:cur[j]? = (p.l.map Pc.val)[j]? :=by rw [←htk,List.getElem?_take,if_pos Om];simp
   rw [jgT,hc]
   simp [hj]
  ·have:e.xs∈p.rs:=jgO.2 ⟨e,he,rfl⟩
   obtain ⟨j,hj,e2⟩ :=jg1 this
   have:=hm.2 j hj
   rw [←Vm hj,e2] at this
   omega
theorem MM {p:Rp} (h:p.res.P w) (hm:smallR p.rs) :Rings w p.A p.l.length p.rs:= (jft h hm).rings
abbrev ZU (x:Option Addr×Nat) (ps:List Rp) :Res:= .many [JQ 0 26 1 ps.length (ps.map Rp.val) x, .many (ps.map Rp.res)]
theorem Fx {ps:List Rp} (h: (ZU x ps).P w) : (JQ 0 26 1 ps.length (ps.map Rp.val) x).P w:= (h.1 _ (by simp)).1
theorem Xd {ps:List Rp} (h: (ZU x ps).P w) : (Res.many (ps.map Rp.res)).P w:= (h.1 _ (by simp)).1
def WR (ps:List Rp) (k:Nat) :Rp:=ps.getD k ⟨none,0,[]⟩
theorem zK {ps:List Rp} (h:k<ps.length) :ps[k]? =some (WR ps k) :=by simp [WR,List.getD,h]
theorem Pb {ps:List Rp} (h: (Res.many (ps.map Rp.res)).P w) (hk:k<ps.length) : (WR ps k).res.P w:= (h.1 _ (jgO.2 ⟨_,List.mem_of_getElem? (zK hk),rfl⟩)).1
def twA (rs:List jK) (i:Nat) :Int:=V6 (rg rs i) (rg rs i).length
def zR (rs:List jK) (i:Nat) :Nat→List jK
 | 0=> []
 | k+1=>if Kj rs k rs.length= (i:Int)∧twA rs k<0 then zR rs i k++ [rg rs k] else zR rs i k
def jdB (rs:List jK) (i k:Nat) :List jK:=rg rs i::zR rs i k
def yP (rs:List jK) :Nat→List (List jK)
 | 0=> []
 | k+1=>if twA rs k≤0 then yP rs k else yP rs k++ [jdB rs k rs.length]
def En (rs:List jK) :List (List jK) :=if uC rs=0 then yP rs rs.length else []
theorem jan {rs:List jK} (h:Kj rs k rs.length= (i:Int)) (h2:twA rs k<0) :zR rs i (k+1) =zR rs i k++ [rg rs k] :=if_pos ⟨h,h2⟩
theorem Nq {rs:List jK} (h:¬(Kj rs k rs.length= (i:Int)∧twA rs k<0)) :zR rs i (k+1) =zR rs i k:=if_neg h
theorem NT {rs:List jK} (h:twA rs k≤0) :yP rs (k+1) =yP rs k:=if_pos h
theorem jbr {rs:List jK} (h:¬twA rs k≤0) :yP rs (k+1) =yP rs k++ [jdB rs k rs.length] :=if_neg h
theorem DR (rs:List jK) (i:Nat) :∀k,(zR rs i k).length≤k
 | 0=>jgx _
 | k+1=>by
  have:=DR rs i k
  unfold zR
  split
  ·rw [jgv];simp;omega
  ·omega
theorem Fu (rs:List jK) :∀k,(yP rs k).length≤k
 | 0=>jgx _
 | k+1=>by
  have:=Fu rs k
  unfold yP
  split
  ·omega
  ·rw [jgv];simp;omega
theorem SP {rs:List jK} {i:Nat} :∀ {k},k≤rs.length→∀r∈zR rs i k,r∈rs
 | 0,_,r,h=>by simp [zR] at h
 | k+1,hk,r,h=>by
  unfold zR at h
  split at h
  ·rcases jgL.1 h with h | h
   ·exact SP Om r h
   ·rw [jgC.1 h,←Vm (show k<rs.length by omega)];exact jgH _
  ·exact SP Om r h
theorem jb4 {rs ss:List jK} (hr:JW rs=true) (hl:ss.length≤41) (hm:∀r∈ss,r∈rs) :smallR ss:=⟨by omega,fun j hj=>by
 have h1:=hm (rg ss j) (by rw [←Vm hj];exact jgH _)
 obtain ⟨q,hq,e⟩ :=jg1 h1
 have:= (smallR.of hr).2 q hq
 rw [←Vm hq,e] at this
 exact this⟩
theorem jby {rs:List jK} (hr:JW rs=true) (hi:i<rs.length) (hk:k≤rs.length) :smallR (jdB rs i k) :=by
 have h40:=vO hr
 have:=DR rs i k
 refine jb4 hr (by simp only [jdB,jgD];omega) fun r h=> ?_
 rcases jgK.1 h with rfl | h
 ·rw [←Vm hi];exact jgH _
 ·exact SP hk r h
theorem ME {rs:List jK} (hr:JW rs=true) :∀ {k},k≤rs.length→∀s∈yP rs k,smallR s
 | 0,_,s,h=>by simp [yP] at h
 | k+1,hk,s,h=>by
  unfold yP at h
  split at h
  ·exact ME hr Om s h
  ·rcases jgL.1 h with h | h
   ·exact ME hr Om s h
   ·rw [jgC.1 h];exact jby hr Om (jgx _)
theorem CD {rs:List jK} :∀s∈En rs,smallR s:=fun s h=>by
 unfold En at h
 split at h
 ·rename_i h0;exact ME (xa h0).1 (jgx _) s h
 ·simp at h
theorem jdx (rs:List jK) : (En rs).length≤40:=by
 unfold En
 split
 ·rename_i h0
  have:=Fu rs rs.length
  have:=vO (xa h0).1
  omega
 ·simp
end Go.Proofs.YtbahojdbmmjkcaaGreat
namespace Go.Proofs.YtbahojdbmmjkcaaGreat
open Go Go.RowKit
set_option maxRecDepth 100000
set_option maxHeartbeats 4000000
theorem L6 (b1_ o1:Nat) (A:Option Addr) (n c:Nat) (xs:List (Int×Int)) (w:World) (hcell:w.cell? ⟨b1_,o1,none⟩ =some (.slice A n c)) (hb1:b1_<w.heap.size) (h:Pts w A n xs) (hn:0<n) (hn2:n≤1048577) :
  Calls Tryz.prog 71 #[.pointer (some ⟨b1_,o1,none⟩)] w fun e w'=>∃x:Option Addr×Nat,e= .returned (.agg #[.slice x.1 n x.2])∧Over w w'∧(JQ 0 28 2 n (xs.flatMap Ju) x).P w'∧(∀b,(JQ 0 28 2 n (xs.flatMap Ju) x).F b→w.heap.size≤b)∧(JQ 0 28 2 n (xs.flatMap Ju) x).B=0∧True:=by
 obtain ⟨b,o,rfl,_⟩ :=h.2 hn
 refine jT (m:=10) (Tryz.func71) J J (lb J) ?_;refine S3 ?_;refine aL (fun b1=> ?_);refine N4 ?_;refine Jw J J (Kn) J (lb J) (fun b2=> ?_);refine vK 1 2 J J ?_;refine N3 ?_;refine a9 (jl J J JK (Qn hcell hb1)) ?_;refine S1 ?_;refine JV (k:=1) J jB jH Dc J Dc J J J (fun w' hs=>MY (h.over hs.fin) hn) (Ve _) (by unfold maxLen;omega) Om (jgx _) (fun r1=> ?_);refine n9 ?_;refine a9 (J0 J J (kV J)) ?_;refine S4 ?_;refine jL J (qh (k:=0) J JB J J) ?_
 intro w' hs
 have hr0:w'.ownsRow w.heap.size 28 2 (.slice r1.1 (0+n) r1.2) (0+n) (xs.flatMap Ju) := (hs.all 1 _ rfl).1
 rw [jgT] at hr0
 exact⟨r1,by rw [jgT],hs.fin,Vy hr0 (jgw _),fun b hb=> (hr0.lt b hb).1,sz⟩
section
variable {n:Nat} {env:List (Nat×Value)} {w0:Bs} {Rs:List Res} {K:Act→World→Prop}
end
end Go.Proofs.YtbahojdbmmjkcaaGreat
