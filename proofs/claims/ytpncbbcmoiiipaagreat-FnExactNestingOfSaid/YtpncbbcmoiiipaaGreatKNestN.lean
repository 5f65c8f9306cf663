import Derived.Test.YtpncbbcmoiiipaaGreatKNestW
import Derived.Test.YtpncbbcmoiiipaaGreatKLawKit
set_option linter.unusedVariables false
set_option linter.unusedSimpArgs false
namespace Go.Proofs.YtpncbbcmoiiipaaGreat
open Go Go.RowKit
set_option maxRecDepth 100000
set_option maxHeartbeats 4000000
abbrev jlW (i:Int) :List Value:= [.int .i64 i]
abbrev jkq (l:List Int) :List Value:=l.flatMap jlW
abbrev jkW (l:List Int) (x:Option Addr×Nat) :Res:=JY 0 2 1 l.length (jkq l) x
theorem jov {rs:List jV} {i j:Nat} (hj:j≤rs.length) (h:0≤jka rs i j) :∃p:Nat,jka rs i j= (p:Int)∧p<rs.length:=by
 have:=jpc rs i j
 exact⟨(jka rs i j).toNat,by omega,by omega⟩
theorem jpF {rs:List jV} {i j p:Nat} (hp:jka rs i j= (p:Int)) (h:jlu (rg rs p) (rg rs j) =true) :jlu (rg rs (jka rs i j).toNat) (rg rs j) =true:=by rw [hp];exact h
theorem jpd {rs:List jV} {i j p:Nat} (hp:jka rs i j= (p:Int)) (h:jlu (rg rs p) (rg rs j) =false) :¬(jka rs i j<0∨jlu (rg rs (jka rs i j).toNat) (rg rs j) =true) :=by
 rw [hp]
 intro k
 rcases k with k | k
 ·omega
 ·rw [show((p:Int)).toNat=p from rfl,h] at k;cases k
theorem rgB {rs:List jV} (hr:JE rs=true) {n k:Nat} (hl:rs.length=n) (h:k<n) :QA (rg rs k) =true:=Km hr Om
theorem jou (rs:List jV) (k:Nat) :jkq (jkM rs k) ++ [.int .i64 (jka rs k rs.length)] =jkq (jkM rs (k+1)) :=by rw [joL];simp [jkq]
theorem jpy {w:World} {Rs:List Res} {b o k:Nat} {v:Value} (hc:w.cell? ⟨b,o+k,none⟩ =some v) (hb:b<w.heap.size) (w':World) (hs:St ⟨w,[]⟩ Rs w') :w'.cell? ⟨b,o+k*1,none⟩ =some v:=by rw [jjf];exact Qm hc hb w' hs
theorem jna (A:Option Addr) (n c:Nat) (rs:List jV) (w:World) (h:Rings w A n rs) (hr:JE rs=true) :
  Calls Tryz.prog 82 #[qT A n c] w fun e w'=>∃x:Option Addr×Nat,e= .returned (.slice x.1 n x.2)∧Over w w'∧(JY 0 2 1 n (jkq (jkM rs n)) x).P w'∧(∀b,(JY 0 2 1 n (jkq (jkM rs n)) x).F b→w.heap.size≤b)∧(JY 0 2 1 n (jkq (jkM rs n)) x).B=0∧True:=by
 have hl:=h.1
 have hn40:=WR hr
 refine Jh (m:=54) (Tryz.func82) J J (lb J) ?_;refine S3 ?_;refine aX (fun b1=> ?_);refine N5 ?_;refine Q7 (T:=2) (s:=1) ?_;refine N10 ?_;refine JQ (X:=Nat×Option Addr×Nat) (fun x=>x.1≤n) (fun x=>n- x.1) (fun x=> [(3, .slice x.2.1 x.1 x.2.2),(12, .int .i64 (x.1:Int))]) (kK [1,2,10,11]) (fun x=> [.cel b1 26 [.slice A n c],JY (Bs.N ⟨w,[]⟩) 2 1 x.1 (jkq (jkM rs x.1)) x.2]) (0,none,0) (jii _) ⟨J,sz⟩ (fun _ h=>h) ?_
 intro⟨i,rA,rc⟩ hx L hL1
 refine v9 ?_;refine r9 ?_
 have hi:i≤n:=hx
 refine S5 ?_;refine cZ (fun c1=> ?_) (fun c1=> ?_)
 ·have hlt:i<n:=Om
  obtain ⟨eb,eo,Ai,ci,rfl,ibB,icell,ipts,imax⟩ :=h.at_ hlt
  refine S8 ?_;refine a9 (jk J J JM J (OO icell ibB)) ?_;refine S1 ?_;refine aL (fun b2=> ?_);refine N17 ?_;refine qz (X:=Nat) (fun j=>j≤n) (fun j=>n- j) (fun j=> [(6, .int .i64 (jka rs i j)),(20, .int .i64 (j:Int))]) (kK [1,2,10,11,3,12,13,14,15,16,5,4,17,18,19]) 0 (jii _) ⟨J,sz⟩ ?_
  intro j hj L hL2
  refine V5 ?_;refine cZ (fun c2=> ?_) (fun c2=> ?_)
  ·have hjl:j<n:=Om
   obtain ⟨fb,fo,Aj,cj,e0,jbB,jcell,jpts,jmax⟩ :=h.at_ hjl
   injection e0 with e0
   injection e0 with e1 e2 _
   subst e1 e2
   refine S8 ?_;refine a9 (jk J J JM J (OO jcell jbB)) ?_;refine S1 ?_;refine aL (fun b3=> ?_);refine N6 ?_;refine JS 21 ?_;refine dK 0 ?_;refine dK 1 ?_;refine dK 2 ?_;refine dK 3 ?_;refine cV 28 (fun g1=> ?_) (fun g1=> ?_)
   ·have hne:j≠i:=by omega
    refine eK 4 ?_;refine eK 5 ?_;refine eZ 6 J (jT jkG J J (fun w1 hs=>jlj Aj _ cj (rg rs j) Ai _ ci (rg rs i) w1 (jpts.over hs.fin) (ipts.over hs.fin) (rgB hr hl hjl) (rgB hr hl hlt))) ?_;refine dK 7 ?_;refine dK 8 ?_;refine cV 33 (fun g2=> ?_) (fun g2=> ?_)
    ·refine eK 9 ?_;refine eK 10 ?_;refine eK 11 ?_;refine cV 36 (fun g3=> ?_) (fun g3=> ?_)
     ·refine fK 12 ?_;refine fK 13 ?_;refine fK 14 ?_;refine fK 15 ?_;refine fK 16 ?_;refine fK 17 ?_;refine fK 18 ?_;refine eK 19 ?_;refine dK 20 ?_;refine JK Kr ?_;refine S12 ?_
      exact qi hL2 (j+1) (Om) Om ⟨vi (by rw [jmA hne g2 (.inl g3)]),vi Om,sz⟩ (u9 J)
     ·obtain ⟨p,hp,hpn⟩ :=jov (i:=i) (show j≤rs.length by omega) Om
      obtain ⟨gb,go,Ap,cp,e0,pbB,pcell,ppts,pmax⟩ :=h.at_ (show p<n by omega)
      injection e0 with e0
      injection e0 with e1 e2 _
      subst e1 e2
      refine eK 12 ?_;refine eK 13 ?_;refine eZ 14 J ((ja J J).as (congrArg _ hp)) ?_;refine eK 15 ?_;refine eZ 16 J (jk J J JM J (OO pcell pbB)) ?_;refine eK 17 ?_;refine eZ 18 J (jT jkG J J (fun w1 hs=>jlj Ap _ cp (rg rs p) Aj _ cj (rg rs j) w1 (ppts.over hs.fin) (jpts.over hs.fin) (rgB hr hl Om) (rgB hr hl hjl))) ?_;refine eK 19 ?_;refine dK 20 ?_;refine JK Kr ?_;refine S1 ?_;refine cZ (fun c3=> ?_) (fun c3=> ?_)
      ·refine S10 ?_
       exact qi hL2 (j+1) (Om) Om ⟨vi (by rw [jmA hne g2 (.inr (jpF hp c3))]),vi Om,sz⟩ (u9 J)
      ·refine S7 ?_
       exact qi hL2 (j+1) (Om) Om ⟨vi (by rw [jmf fun k=>jpd hp c3 k.2]),vi Om,sz⟩ (u9 J)
    ·refine fK 9 ?_;refine fK 10 ?_;refine fK 11 ?_;refine Md (i:=12) J Kr Kr Kr [] Kr (fun _ _ _ h=>h) J J J J J Dc (u9 J) ?_;refine Md (i:=13) J Kr Kr Kr [] Kr (fun _ _ _ h=>h) J J J J J Dc (u9 J) ?_;refine Md (i:=14) J Kr Kr Kr [] Kr (fun _ _ _ h=>h) J J J J J Dc (u9 J) ?_;refine Md (i:=15) J Kr Kr Kr [] Kr (fun _ _ _ h=>h) J J J J J Dc (u9 J) ?_;refine Md (i:=16) J Kr Kr Kr [] Kr (fun _ _ _ h=>h) J J J J J Dc (u9 J) ?_;refine Md (i:=17) J Kr Kr Kr [] Kr (fun _ _ _ h=>h) J J J J J Dc (u9 J) ?_;refine Md (i:=18) J Kr Kr Kr [] Kr (fun _ _ _ h=>h) J J J J J Dc (u9 J) ?_;refine fK 19 ?_;refine dK 20 ?_;refine JK Kr ?_;refine S9 ?_
     exact qi hL2 (j+1) (Om) Om ⟨vi (by rw [jmf fun k=>by have:=k.1.2;rw [g2] at this;cases this]),vi Om,sz⟩ (u9 rfl)
   ·have hne:j=i:=by omega
    refine fK 4 ?_;refine fK 5 ?_;refine fK 6 ?_;refine dK 7 ?_;refine dK 8 ?_;refine fK 9 ?_;refine fK 10 ?_;refine fK 11 ?_;refine Md (i:=12) J Kr Kr Kr [] Kr (fun _ _ _ h=>h) J J J J J Dc (u9 J) ?_;refine Md (i:=13) J Kr Kr Kr [] Kr (fun _ _ _ h=>h) J J J J J Dc (u9 J) ?_;refine Md (i:=14) J Kr Kr Kr [] Kr (fun _ _ _ h=>h) J J J J J Dc (u9 J) ?_;refine Md (i:=15) J Kr Kr Kr [] Kr (fun _ _ _ h=>h) J J J J J Dc (u9 J) ?_;refine Md (i:=16) J Kr Kr Kr [] Kr (fun _ _ _ h=>h) J J J J J Dc (u9 J) ?_;refine Md (i:=17) J Kr Kr Kr [] Kr (fun _ _ _ h=>h) J J J J J Dc (u9 J) ?_;refine Md (i:=18) J Kr Kr Kr [] Kr (fun _ _ _ h=>h) J J J J J Dc (u9 J) ?_;refine fK 19 ?_;refine dK 20 ?_;refine JK Kr ?_;refine S9 ?_
    exact qi hL2 (j+1) (Om) Om ⟨vi (by rw [jmf fun k=>k.1.1 hne]),vi Om,sz⟩ (u9 J)
  ·have hjn:j=rs.length:=Om
   subst hjn
   refine S9 ?_;refine Jx J J (jkV J) J (lb J) (fun b4=> ?_);refine N1 ?_;refine JV (k:=1) J Gm kS Dc J Dc J J J (fun w' hs=>Qb hs (k:=3) J J) (by simp [Value.oneCell']) (by unfold maxLen;omega) Om (jih _) (fun r1=> ?_);refine N8 ?_
   exact Ji hL1 ((i+1,r1)) ((show i+1≤n by omega)) (by simp only;omega) ⟨J,vi Om,sz⟩ (fun _ h=>h.upto ⟨J,by rw [←jou],trivial⟩)
 ·have hin:i=n:=Om
  subst hin
  refine S11 ?_;refine jM J (.tmp J) ?_
  intro w' hs
  exact⟨(rA,rc),rfl,hs.fin,yb (hs.all 1 _ rfl).1 (jii _),fun b hb=> ((hs.all 1 _ rfl).2.1 b hb).elim id (fun h=>by cases h),sz⟩
theorem jmQ (bb oo:Nat) (A:Option Addr) (n c:Nat) (rs:List jV) (w:World) (hcell0:w.cell? ⟨bb,oo,none⟩ =some (.slice A n c)) (hbb:bb<w.heap.size) (h:Rings w A n rs) (hr:JE rs=true) :
  Calls Tryz.prog 80 #[.pointer (some ⟨bb,oo,none⟩)] w fun e w'=>∃x:Option Addr×Nat,e= .returned (.slice x.1 n x.2)∧Over w w'∧(JY 0 2 1 n (jkq (jkM rs n)) x).P w'∧(∀b,(JY 0 2 1 n (jkq (jkM rs n)) x).F b→w.heap.size≤b)∧(JY 0 2 1 n (jkq (jkM rs n)) x).B=0∧True:=by
 have hl:=h.1
 have hn40:=WR hr
 refine Jh (m:=68) (Tryz.func80) J J (lb J) ?_;refine S7 ?_;refine Jx J J (jmH) J (lb J) (fun b1=> ?_);refine WF 0 1 J J ?_;refine N8 ?_;refine JQ (X:=Nat×Option Addr×Nat) (fun x=>x.1≤n) (fun x=>n- x.1) (fun x=> [(3, .slice x.2.1 x.1 x.2.2),(4, .int .i64 (x.1:Int))]) (kK [0,2]) (fun x=> [JY (Bs.N ⟨w,[]⟩) 2 1 x.1 (jkq (jkM rs x.1)) x.2]) (0,some ⟨b1,0,none⟩,0) (jii _) ⟨J,sz⟩ (fun _ h=>h) ?_
 intro⟨i,rA,rc⟩ hx L hL1
 refine v9 ?_;refine r9 ?_
 have hi:i≤n:=hx
 refine S7 ?_;refine a9 (jn J J JR (kI hcell0 hbb)) ?_;refine S3 ?_;refine cZ (fun c1=> ?_) (fun c1=> ?_)
 ·have hlt:i<n:=Om
  obtain ⟨eb,eo,Ai,ci,rfl,ibB,icell,ipts,imax⟩ :=h.at_ hlt
  refine S14 ?_;refine qz (X:=Nat) (fun j=>j≤n) (fun j=>n- j) (fun j=> [(5, .int .i64 (jka rs i j)),(6, .int .i64 (j:Int))]) (kK [0,2,3,4,8,9,10,11,12,13,14]) 0 (jii _) ⟨J,sz⟩ ?_
  intro j hj L hL2
  refine V7 ?_;refine a9 (jn J J JR (kI hcell0 hbb)) ?_;refine S3 ?_;refine cZ (fun c2=> ?_) (fun c2=> ?_)
  ·have hjl:j<n:=Om
   obtain ⟨fb,fo,Aj,cj,e0,jbB,jcell,jpts,jmax⟩ :=h.at_ hjl
   injection e0 with e0
   injection e0 with e1 e2 _
   subst e1 e2
   refine S7 ?_;refine JS 19 ?_;refine dK 0 ?_;refine dK 1 ?_;refine dK 2 ?_;refine dK 3 ?_;refine cV 29 (fun g1=> ?_) (fun g1=> ?_)
   ·have hne:j=i:=by omega
    refine fK 4 ?_;refine fK 5 ?_;refine fK 6 ?_;refine fK 7 ?_;refine fK 8 ?_;refine fK 9 ?_;refine fK 10 ?_;refine fK 11 ?_;refine fK 12 ?_;refine fK 13 ?_;refine fK 14 ?_;refine fK 15 ?_;refine fK 16 ?_;refine fK 17 ?_;refine dK 18 ?_;refine JK Kr ?_;refine S11 ?_
    exact qi hL2 (j+1) (Om) Om ⟨vi (by rw [jmf fun k=>k.1.1 hne]),vi Om,sz⟩ (u9 J)
   ·have hne:j≠i:=by omega
    refine eK 4 ?_;refine eK 5 ?_;refine eK 6 ?_;refine eZ 7 J (jn J J JR (kI hcell0 hbb)) ?_;refine eK 8 ?_;refine eK 9 ?_;refine eK 10 ?_;refine eK 11 ?_;refine eK 12 ?_;refine eZ 13 J (jn J J JR (kI hcell0 hbb)) ?_;refine eK 14 ?_;refine eK 15 ?_;refine eZ 16 J (jT jkR J J (fun w1 hs=>jlC _ _ _ _ Aj _ cj (rg rs j) Ai _ ci (rg rs i) w1 (jpy jcell jbB w1 hs) (jiu jbB hs.fin.size) (jpy icell ibB w1 hs) (jiu ibB hs.fin.size) (jpts.over hs.fin) (ipts.over hs.fin) (rgB hr hl hjl) (rgB hr hl hlt))) ?_;refine eK 17 ?_;refine dK 18 ?_;refine JK Kr ?_;refine S1 ?_;refine cZ (fun c3=> ?_) (fun c3=> ?_)
    ·refine S9 ?_
     exact qi hL2 (j+1) (Om) Om ⟨vi (by rw [jmf fun k=>by have:=k.1.2;rw [c3] at this;cases this]),vi Om,sz⟩ (u9 rfl)
    ·refine S4 ?_;refine JS 17 ?_;refine dK 0 ?_;refine dK 1 ?_;refine dK 2 ?_;refine cV 47 (fun g2=> ?_) (fun g2=> ?_)
     ·refine fK 3 ?_;refine fK 4 ?_;refine fK 5 ?_;refine fK 6 ?_;refine fK 7 ?_;refine fK 8 ?_;refine fK 9 ?_;refine fK 10 ?_;refine fK 11 ?_;refine fK 12 ?_;refine fK 13 ?_;refine fK 14 ?_;refine fK 15 ?_;refine dK 16 ?_;refine JK Kr ?_;refine S13 ?_
      exact qi hL2 (j+1) (Om) Om ⟨vi (by rw [jmA hne c3 (.inl g2)]),vi Om,sz⟩ (u9 J)
     ·obtain ⟨p,hp,hpn⟩ :=jov (i:=i) (show j≤rs.length by omega) Om
      obtain ⟨gb,go,Ap,cp,e0,pbB,pcell,ppts,pmax⟩ :=h.at_ (show p<n by omega)
      injection e0 with e0
      injection e0 with e1 e2 _
      subst e1 e2
      refine eK 3 ?_;refine eK 4 ?_;refine eK 5 ?_;refine eZ 6 J (jn J J JR (kI hcell0 hbb)) ?_;refine eZ 7 J ((ja J J).as (congrArg _ hp)) ?_;refine eK 8 ?_;refine eK 9 ?_;refine eK 10 ?_;refine eK 11 ?_;refine eZ 12 J (jn J J JR (kI hcell0 hbb)) ?_;refine eK 13 ?_;refine eK 14 ?_;refine eZ 15 J (jT jkR J J (fun w1 hs=>jlC _ _ _ _ Ap _ cp (rg rs p) Aj _ cj (rg rs j) w1 (jpy pcell pbB w1 hs) (jiu pbB hs.fin.size) (jpy jcell jbB w1 hs) (jiu jbB hs.fin.size) (ppts.over hs.fin) (jpts.over hs.fin) (rgB hr hl Om) (rgB hr hl hjl))) ?_;refine dK 16 ?_;refine JK Kr ?_;refine S1 ?_;refine cZ (fun c4=> ?_) (fun c4=> ?_)
      ·refine S11 ?_
       exact qi hL2 (j+1) (Om) Om ⟨vi (by rw [jmA hne c3 (.inr (jpF hp c4))]),vi Om,sz⟩ (u9 J)
      ·refine S8 ?_
       exact qi hL2 (j+1) (Om) Om ⟨vi (by rw [jmf fun k=>jpd hp c4 k.2]),vi Om,sz⟩ (u9 J)
  ·have hjn:j=rs.length:=Om
   subst hjn
   refine S9 ?_;refine Jx J J (jkV J) J (lb J) (fun b2=> ?_);refine N1 ?_;refine JV (k:=0) J Gm kS Dc J Dc J J J (fun w' hs=>Qb hs (k:=1) J J) (by simp [Value.oneCell']) (by unfold maxLen;omega) Om (jih _) (fun r1=> ?_);refine N9 ?_
   exact Ji hL1 ((i+1,r1)) ((show i+1≤n by omega)) (by simp only;omega) ⟨J,vi Om,sz⟩ (fun _ h=>h.upto ⟨by rw [←jou],trivial⟩)
 ·have hin:i=n:=Om
  subst hin
  refine S11 ?_;refine jM J (.tmp J) ?_
  intro w' hs
  exact⟨(rA,rc),rfl,hs.fin,yb (hs.all 0 _ rfl).1 (jii _),fun b hb=> ((hs.all 0 _ rfl).2.1 b hb).elim id (fun h=>by cases h),sz⟩
def jk8 (rs:List jV) :Int:=if JE rs=true then(if clB rs=true then 0 else 6) else 1
def ngL (rs:List jV) :List Int:=if JE rs=true then(if clB rs=true then jkM rs rs.length else []) else []
theorem jop {rs:List jV} (h:JE rs=false) :jk8 rs=1∧ngL rs= [] :=by simp [jk8,ngL,h]
theorem jne {rs:List jV} (h:JE rs=true) (h2:clB rs=false) :jk8 rs=6∧ngL rs= [] :=by simp [jk8,ngL,h,h2]
theorem jn1 {rs:List jV} (h:JE rs=true) (h2:clB rs=true) :jk8 rs=0∧ngL rs=jkM rs rs.length:=by simp [jk8,ngL,h,h2]
theorem joS {rs:List jV} (h:jk8 rs=0) :JE rs=true∧clB rs=true:=by
 unfold jk8 at h
 split at h
 ·split at h
  ·exact⟨by assumption,by assumption⟩
  ·omega
 ·omega
theorem jps {rs:List jV} (h:¬jk8 rs=0) :ngL rs= [] :=by
 unfold jk8 at h
 unfold ngL
 split
 ·rename_i h1
  rw [if_pos h1] at h
  split
  ·rename_i h2
   rw [if_pos h2] at h
   exact absurd rfl h
  ·rfl
 ·rfl
section
variable {w:World} {Rs:List Res}
theorem jpz {b o:Nat} {v:Value} (hc:w.cell? ⟨b,o,none⟩ =some v) (hb:b<w.heap.size) :∀w',St ⟨w,[]⟩ Rs w'→∀j u,[v][j]? =some u→w'.cell? ⟨b,o+j,none⟩ =some u:=fun w' hs j u hj=>by
 match j,hj with
 | 0,hj=>simp at hj;subst hj;exact kI hc hb w' hs
end
theorem jpJ {rs:List jV} (h:JE rs=true) : (total rs:Int)≤1048576:=jjC (smallR.of h).total Dc
theorem joc (bb oo:Nat) (A:Option Addr) (n c:Nat) (rs:List jV) (w:World) (hcell0:w.cell? ⟨bb,oo,none⟩ =some (.slice A n c)) (hbb:bb<w.heap.size) (h:Rings w A n rs) (ht: (total rs:Int)≤1048577) :
  Calls Tryz.prog 79 #[.pointer (some ⟨bb,oo,none⟩)] w fun e w'=>e= .returned (.int .i64 (jk8 rs))∧Over w w':=by
 refine Jh (m:=11) (Tryz.func79) J J (lb J) ?_;refine S8 ?_;refine a9 (jT vD J J (fun w1 hs=>ZC bb oo A n c rs w1 (Qm hcell0 hbb w1 hs) (jiu hbb hs.fin.size) (h.over hs.fin) ht)) ?_;refine S2 ?_;refine cZ (fun c1=> ?_) (fun c1=> ?_)
 ·refine S6 ?_;refine jM J (.tmp J) ?_
  intro w' hs
  exact⟨YF (jop c1).1.symm,hs.fin⟩
 ·refine S7 ?_;refine a9 (jk J J jG J (jpz hcell0 hbb)) ?_;refine a9 (jT jmu J J (fun w1 hs=>jmy A n c rs w1 (h.over hs.fin) (jpJ c1))) ?_;refine S2 ?_;refine cZ (fun c2=> ?_) (fun c2=> ?_)
  ·refine S6 ?_;refine jM J (.tmp J) ?_
   intro w' hs
   exact⟨YF (jne c1 c2).1.symm,hs.fin⟩
  ·refine S7 ?_;refine jM J (.tmp J) ?_
   intro w' hs
   exact⟨YF (jn1 c1 c2).1.symm,hs.fin⟩
abbrev NgR (rs:List jV) (e:Ending) (w w':World) :Prop:=∃x:Option Addr×Nat,e= .returned (.tuple #[.slice x.1 (ngL rs).length x.2, .int .i64 (jk8 rs)])∧Over w w'∧(jkW (ngL rs) x).P w'∧(∀b,(jkW (ngL rs) x).F b→w.heap.size≤b)∧(jkW (ngL rs) x).B=0∧True
theorem jof {rs:List jV} {w w':World} {k:Int} (h1:jk8 rs=k) (h2:ngL rs= []) (ho:Over w w') :NgR rs (.returned (.tuple #[.slice none 0 0, .int .i64 k])) w w':=by
 refine⟨(none,0),by rw [h1,h2];rfl,ho,?_,?_,sz⟩
 ·rw [h2];exact jg3 _ _ _ _
 ·rw [h2];intro b hb;have:=Hm.1 hb;simp [jag] at this
theorem jpE {rs:List jV} {w w':World} {x:Option Addr×Nat} (h1:jk8 rs=0) (h2:ngL rs=jkM rs rs.length) (ho:Over w w') (hP: (JY 0 2 1 rs.length (jkq (jkM rs rs.length)) x).P w') (hF:∀b,(JY 0 2 1 rs.length (jkq (jkM rs rs.length)) x).F b→w.heap.size≤b) :NgR rs (.returned (.tuple #[.slice x.1 rs.length x.2, .int .i64 0])) w w':=by
 have e: (ngL rs).length=rs.length:=by rw [h2,jnT]
 exact⟨x,by rw [h1,e],ho,by unfold jkW;rw [e,h2];exact hP,by unfold jkW;rw [e,h2];exact hF,sz⟩
theorem jlz (A:Option Addr) (n c:Nat) (rs:List jV) (w:World) (h:Rings w A n rs) (ht: (total rs:Int)≤1048577) :
  Calls Tryz.prog 28 #[qT A n c] w fun e w'=>NgR rs e w w':=by
 have hl:=h.1
 refine Jh (m:=12) (Tryz.func28) J J (lb J) ?_;refine S3 ?_;refine aX (fun b1=> ?_);refine N7 ?_;refine a9 (jT vG J J (fun w1 hs=>jkm A n c rs w1 (h.over hs.fin) ht)) ?_;refine S2 ?_;refine cZ (fun c1=> ?_) (fun c1=> ?_)
 ·refine S7 ?_;refine qv J (.tmp J) (.tmp J) ?_
  intro w' hs
  obtain ⟨e1,e2⟩ :=jop c1
  exact jof e1 e2 hs.fin
 ·refine S6 ?_;refine a9 (jT LQ J J (fun w1 hs=>Rf A n c rs w1 (h.over hs.fin) (jpJ c1))) ?_;refine S2 ?_;refine cZ (fun c2=> ?_) (fun c2=> ?_)
  ·refine S7 ?_;refine qv J (.tmp J) (.tmp J) ?_
   intro w' hs
   obtain ⟨e1,e2⟩ :=jne c1 c2
   exact jof e1 e2 hs.fin
  ·obtain ⟨e1,e2⟩ :=jn1 c1 c2
   subst hl
   refine S6 ?_;refine J4 jl0 (X:=Option Addr×Nat) (v:=fun x=> .slice x.1 rs.length x.2) (r:=fun x=>JY 0 2 1 rs.length (jkq (jkM rs rs.length)) x) (H:=fun _=>True) J J J (lb J) (fun w1 hs=>jna A _ c rs w1 (h.over hs.fin) c1) ?_
   rintro⟨gA,gc⟩ -
   refine N4 ?_;refine qv J (.tmp J) (.tmp J) ?_
   intro w' hs
   exact jpE (x:= (gA,gc)) e1 e2 hs.fin (hs.all 1 _ rfl).1 (fun b hb=> ((hs.all 1 _ rfl).2.1 b hb).elim id (fun h=>by cases h))
theorem jl8 (A:Option Addr) (n c:Nat) (rs:List jV) (w:World) (h:Rings w A n rs) (ht: (total rs:Int)≤1048577) :
  Calls Tryz.prog 27 #[qT A n c] w fun e w'=>NgR rs e w w':=by
 have hl:=h.1
 refine Jh (m:=10) (Tryz.func27) J J (lb J) ?_;refine S3 ?_;refine aX (fun b1=> ?_);refine N5 ?_;refine a9 (jT jm0 J J (fun w1 hs=>joc _ _ A n c rs w1 (qo (k:=0) J J w1 hs) (J3 (hs.cel (k:=0) J)) (h.over hs.fin) ht)) ?_;refine S8 ?_;refine cZ (fun c1=> ?_) (fun c1=> ?_)
 ·refine S8 ?_;refine qv J (.tmp J) (.tmp J) ?_
  intro w' hs
  exact jof rfl (jps (by simpa using c1)) hs.fin
 ·have h0:jk8 rs=0:=by simpa using c1
  obtain ⟨g1,g2⟩ :=joS h0
  obtain ⟨e1,e2⟩ :=jn1 g1 g2
  subst hl
  refine S5 ?_;refine J4 jlL (X:=Option Addr×Nat) (v:=fun x=> .slice x.1 rs.length x.2) (r:=fun x=>JY 0 2 1 rs.length (jkq (jkM rs rs.length)) x) (H:=fun _=>True) J J J (lb J) (fun w1 hs=>jmQ _ _ A _ c rs w1 (qo (k:=0) J J w1 hs) (J3 (hs.cel (k:=0) J)) (h.over hs.fin) g1) ?_
  rintro⟨gA,gc⟩ -
  refine N4 ?_;refine qv J (.tmp J) (.tmp J) ?_
  intro w' hs
  exact jpE (x:= (gA,gc)) e1 e2 hs.fin (hs.all 1 _ rfl).1 (fun b hb=> ((hs.all 1 _ rfl).2.1 b hb).elim id (fun h=>by cases h))
def nI (l:List Int) (k:Nat) :Int:=l.getD k 0
theorem joe {l:List Int} {k:Nat} (h:k<l.length) :l[k]? =some (nI l k) :=by simp [nI,List.getD,h]
def jlv (l:List Int) (k:Nat) :List Int:= (List.range l.length).map fun j=>if j<k then 1+ (j:Int) else nI l j
theorem jpa (l:List Int) (k:Nat) : (jlv l k).length=l.length:=by simp [jlv]
theorem joJ (l:List Int) :jlv l 0=l:=by
 refine jjz (by simp [jlv]) fun j h1 h2=> ?_
 simp [jlv,nI,List.getD,h2]
theorem joI {l:List Int} {k:Nat} (h:k<l.length) :jlv l (k+1) = (jlv l k).set k (1+ (k:Int)) :=by
 refine jjz (by simp [jlv]) fun j h1 h2=> ?_
 rw [List.getElem_set]
 simp only [jlv,jjs,jjU]
 by_cases e:k=j
 ·subst e;rw [if_pos Om,if_pos rfl]
 ·rw [if_neg e]
  by_cases c:j<k
  ·rw [if_pos c,if_pos Om]
  ·rw [if_neg c,if_neg Om]
theorem jo9 {l:List Int} {k:Nat} (h:k<l.length) : (jlv l l.length)[k]? =some (1+ (k:Int)) :=by simp [jlv,h]
theorem jlb (l:List Int) (x y:Option Addr×Nat) (w:World) (hx: (jkW l x).P w) (hy: (jkW l y).P w) (hl:l.length≤100000) :
  Calls Tryz.prog 29 #[.slice x.1 l.length x.2, .slice y.1 l.length y.2] w fun e w'=>e= .returned (.bool true)∧Over w w':=by
 refine Jh (m:=26) (Tryz.func29) J J (lb J) ?_;refine S13 ?_;refine Dh J (F2 _) ?_;refine S8 ?_;refine qz (X:=Nat) (fun k=>k≤l.length) (fun k=>l.length- k) (fun k=> [(5, .int .i64 (k:Int))]) (kK [0,1,4]) 0 (jii _) ⟨J,sz⟩ ?_
 intro k hk L hL1
 refine V8 ?_;refine cZ (fun c1=> ?_) (fun c1=> ?_)
 ·have hlt:k<l.length:=Om
  refine S6 ?_;refine JS 9 ?_;refine dK 0 ?_;refine dK 1 ?_;refine dZ 2 J (qQ (j:=k) (fun w hs=>ke hx hs.fin) J J J Gm hlt) ?_;refine dZ 3 J (jn J J jt (rdG (i:=0) (m:=1) (f:=jlW) (fun _=>rfl) (fun w hs=>ke hx hs.fin) (joe hlt) Om J)) ?_;refine dK 4 ?_;refine dK 5 ?_;refine dZ 6 J (qQ (j:=k) (fun w hs=>ke hy hs.fin) J J J Gm hlt) ?_;refine dZ 7 J (jn J J jt (rdG (i:=0) (m:=1) (f:=jlW) (fun _=>rfl) (fun w hs=>ke hy hs.fin) (joe hlt) Om J)) ?_;refine dK 8 ?_;refine JK Kr ?_;refine S1 ?_;refine Dh J (F2 _) ?_;refine S8 ?_
  exact qi hL1 (k+1) Om Om ⟨vi Om,sz⟩ (u9 J)
 ·refine S10 ?_;refine jM J (.tmp J) ?_
  intro w' hs
  exact⟨rfl,hs.fin⟩
theorem jnv (l:List Int) (x:Option Addr×Nat) (w:World) (hx: (jkW l x).P w) (hl:l.length≤100000) :
  Calls Tryz.prog 30 #[.slice x.1 l.length x.2, .int .i64 1] w fun e w'=>e= .returned (.int .i64 (1+ (l.length:Int)))∧Wrs (jkW l x).F w w'∧(JY 0 2 1 l.length (jkq (jlv l l.length)) x).P w':=by
 refine Vp (m:=19) (jag x) (jkW l x) (hx) (fun b hb=>Hm.1 hb) J (Tryz.func30) J J (lb J) ?_;refine S10 ?_;refine JQ (X:=Nat) (fun k=>k≤l.length) (fun k=>l.length- k) (fun k=> [(1, .int .i64 (1+ (k:Int))),(5, .int .i64 (k:Int))]) (kK [0,4]) (fun k=> [JY 0 2 1 l.length (jkq (jlv l k)) x]) 0 (jii _) ⟨vi (by simp),sz⟩ (fun _ h=>by rw [joJ];exact h) ?_
 intro k hk L hL1
 refine v9 ?_;refine r9 ?_
 obtain ⟨M,hM⟩ :∃M,M=jlv l k:=⟨_,rfl⟩
 have hMl:M.length=l.length:= (by rw [hM];exact jpa l k)
 rw [←hM]
 refine S8 ?_;refine cZ (fun c1=> ?_) (fun c1=> ?_)
 ·have hlt:k<l.length:=Om
  have hlM:k<M.length:=Om
  refine S9 ?_;refine a9 (qQ (j:=k) (fun w hs=> (hs.all 0 _ J).1) J J J Gm hlt) ?_;refine S1 ?_;refine Uw (k:=0) (vs:=jlW (1+ (k:Int))) J J J J (by rfl) (by rfl) kS.szx J J (by simp) (by rw [WG jlW 1 (fun _=>rfl)];simp only [jim,jiH];omega) ?_;refine n9 ?_
  rw [UZ (m:=1) (off:=0+k*1) jlW (fun _=>rfl) (joe hlM) [] (jlW (nI M k)) (jlW (1+ (k:Int))) [] rfl rfl rfl (by simp)]
  refine S13 ?_
  exact Ji hL1 (k+1) Om Om ⟨vi Om,vi Om,sz⟩ (fun _ h=>h.upto ⟨by rw [joI hlt,←hM],trivial⟩)
 ·have hkn:k=l.length:=Om
  refine S11 ?_;refine jM J (.tmp J) ?_
  intro w' hs
  exact⟨YF (by rw [hkn]),hs.over.wrs.mono fun b hb=>Hm.2 hb,by have:= (hs.all 0 _ rfl).1;rw [hM,hkn] at this;exact this⟩
theorem jlU (l:List Int) (x:Option Addr×Nat) (w:World) (hx: (JY 0 2 1 l.length (jkq (jlv l l.length)) x).P w) (hl:l.length≤100000) :
  Calls Tryz.prog 31 #[.slice x.1 l.length x.2, .int .i64 1] w fun e w'=>e= .returned (.int .i64 (1+ (l.length:Int)))∧Over w w':=by
 refine Jh (m:=21) (Tryz.func31) J J (lb J) ?_;refine S10 ?_;refine qz (X:=Nat) (fun k=>k≤l.length) (fun k=>l.length- k) (fun k=> [(1, .int .i64 (1+ (k:Int))),(5, .int .i64 (k:Int))]) (kK [0,4]) 0 (jii _) ⟨vi (by simp),sz⟩ ?_
 intro k hk L hL1
 refine V8 ?_;refine cZ (fun c1=> ?_) (fun c1=> ?_)
 ·have hlt:k<l.length:=Om
  refine S9 ?_;refine a9 (qQ (j:=k) (fun w hs=>ke hx hs.fin) J J J Gm hlt) ?_;refine a9 (jn J J jt (rdG (i:=0) (m:=1) (f:=jlW) (v:= .int .i64 (1+ (k:Int))) (fun _=>rfl) (fun w hs=>ke hx hs.fin) (jo9 hlt) Om J)) ?_;refine S3 ?_;refine Dh J (F2 _) ?_;refine S14 ?_
  exact qi hL1 (k+1) Om Om ⟨vi Om,vi Om,sz⟩ (u9 J)
 ·have hkn:k=l.length:=Om
  refine S11 ?_;refine jM J (.tmp J) ?_
  intro w' hs
  exact⟨YF (by rw [hkn]),hs.fin⟩
theorem jpv {rs:List jV} (h: (total rs:Int)≤1048576) : (ngL rs).length≤40:=by
 unfold ngL
 split
 ·rename_i hr
  split
  ·rw [jnT];exact WR hr
  ·simp
 ·simp
theorem jpI (k:Nat) :decide ((1:Int) + (k:Int) <0) =false:=decide_eq_false Om
theorem jm8 (A:Option Addr) (n c:Nat) (rs:List jV) (w:World) (h:Rings w A n rs) (hm: (n:Int)≤9223372036854775807) :
  Calls Tryz.prog 6 #[qT A n c] w fun e w'=>e= .returned (.bool true)∧Over w w':=by
 have hl:=h.1
 have hz: (total rs:Int)≤1048576→szV 1048576 (total rs) =1048576- total rs:=joP
 have hz2:¬(total rs:Int)≤1048576→szV 1048576 (total rs) = -1:=jpB
 refine Jh (m:=96) (Tryz.func6) J J (lb J) ?_;refine S3 ?_;refine aX (fun b1=> ?_);refine N10 ?_;refine a9 (jT jky J J (fun w1 hs=>jk5 A n c rs 1048576 w1 (h.over hs.fin) Om Om hm)) ?_;refine S8 ?_;refine cZ (fun c1=> ?_) (fun c1=> ?_)
 ·refine S6 ?_;refine jM J (.tmp J) ?_
  intro w' hs
  exact⟨rfl,hs.fin⟩
 ·have ht: (total rs:Int)≤1048576:=Decidable.byContradiction fun ht=>by have:=hz2 ht;omega
  clear hz hz2 hm
  have hts:=jmh ht hl
  have hsm:=jpv ht
  refine S6 ?_;refine J4 kB (X:=Nat×Nat×Nat) (v:=fun x=>qT (some ⟨x.1,0,none⟩) n n) (r:=fun x=>Ky n rs x.2.1 x.2.2 (some ⟨x.1,0,none⟩)) (H:=fun _=>True) J J J (lb J) (fun w1 hs=>jkg (K2 A n c rs w1 (h.over hs.fin) ht)) ?_
  rintro⟨tg,tlo,thi⟩ -
  refine N1 ?_;refine J4 jl4 (X:=Option Addr×Nat) (v:=fun x=> .tuple #[.slice x.1 (ngL rs).length x.2, .int .i64 (jk8 rs)]) (r:=fun x=>jkW (ngL rs) x) (H:=fun _=>True) J J J (lb J) (fun w1 hs=>jl8 _ n n rs w1 (vM (k:=1) J w1 hs) (jjC ht Dc)) ?_
  rintro⟨wA,wc⟩ -
  refine N10 ?_;refine J4 kB (X:=Nat×Nat×Nat) (v:=fun x=>qT (some ⟨x.1,0,none⟩) n n) (r:=fun x=>Ky n rs x.2.1 x.2.2 (some ⟨x.1,0,none⟩)) (H:=fun _=>True) J J J (lb J) (fun w1 hs=>jkg (K2 A n c rs w1 (h.over hs.fin) ht)) ?_
  rintro⟨tg,tlo,thi⟩ -
  refine N1 ?_;refine aL (fun b2=> ?_);refine N7 ?_;refine J4 jkO (X:=Option Addr×Nat) (v:=fun x=> .tuple #[.slice x.1 (ngL rs).length x.2, .int .i64 (jk8 rs)]) (r:=fun x=>jkW (ngL rs) x) (H:=fun _=>True) J J J (lb J) (fun w1 hs=>jlz _ n n rs w1 (vM (k:=3) J w1 hs) (jjC ht Dc)) ?_
  rintro⟨gA,gc⟩ -
  refine N11 ?_;refine a9 (jT jkx J J (fun w1 hs=>jlb (ngL rs) (gA,gc) (wA,wc) w1 (hs.all 5 _ J).1 (hs.all 2 _ J).1 Om)) ?_;refine S2 ?_;refine W7 36 (.bool false) J (by rw [jkn]) ?_;refine S8 ?_;refine Dh J (F2 _) ?_;refine S5 ?_;refine JS 5 ?_;refine dK 0 ?_;refine dK 1 ?_;refine qe (i:=2) J Dc Kr J ?_;refine J4 kB (X:=Nat×Nat×Nat) (v:=fun x=>qT (some ⟨x.1,0,none⟩) n n) (r:=fun x=>Ky n rs x.2.1 x.2.2 (some ⟨x.1,0,none⟩)) (H:=fun _=>True) J J J (lb J) (fun w1 hs=>jkg (K2 A n c rs w1 (h.over hs.fin) ht)) ?_
  rintro⟨tg,tlo,thi⟩ -
  refine n9 ?_;refine Yq (u9 J) ?_;refine dZ 3 J (jT kx J J (fun w1 hs=>K1 _ _ _ _ _ rs w1 (vM (k:=3) J w1 hs) (vM (k:=6) J w1 hs) ht)) ?_;refine dK 4 ?_;refine JK Kr ?_;refine S1 ?_;refine Dh J (J) ?_;refine S11 ?_;refine z7 (k:=3) (r':=Ky n (F1 1 rs) _ _ _) zr J J J Dc J (fun w1 hs=>jlo (jhZ (k:=3) J w1 hs) (joE (k:=3) J w1 hs) hts) (fun _ h=>h) J ?_;refine N8 ?_;refine W7 51 (.bool false) J (by rw [(joi _)]) ?_;refine S5 ?_;refine o9 (jT jkx J J (fun w1 hs=>jlb (ngL rs) (gA,gc) (wA,wc) w1 (hs.all 5 _ J).1 (hs.all 2 _ J).1 Om)) ?_;refine S4 ?_;refine W7 57 (.bool false) J (by rw [jkn]) ?_;refine S8 ?_;refine Dh J (F2 _) ?_;refine S11 ?_;refine z7 (k:=5) (r':=JY 0 2 1 (ngL rs).length (jkq (jlv (ngL rs) (ngL rs).length)) (gA,gc)) jlK J J J Dc J (fun w1 hs=>jnv (ngL rs) (gA,gc) w1 (hs.all 5 _ J).1 Om) (fun _ h=>h) J ?_;refine N10 ?_;refine a9 (jT jkH J J (fun w1 hs=>jlU (ngL rs) (gA,gc) w1 (hs.all 5 _ J).1 Om)) ?_;refine S8 ?_;refine Dh J (jpI _) ?_;refine S9 ?_;refine Dh J (F2 _) ?_;refine S6 ?_;refine J4 kB (X:=Nat×Nat×Nat) (v:=fun x=>qT (some ⟨x.1,0,none⟩) n n) (r:=fun x=>Ky n rs x.2.1 x.2.2 (some ⟨x.1,0,none⟩)) (H:=fun _=>True) J J J (lb J) (fun w1 hs=>jkg (K2 A n c rs w1 (h.over hs.fin) ht)) ?_
  rintro⟨tg,tlo,thi⟩ -
  refine N1 ?_;refine J4 jkO (X:=Option Addr×Nat) (v:=fun x=> .tuple #[.slice x.1 (ngL rs).length x.2, .int .i64 (jk8 rs)]) (r:=fun x=>jkW (ngL rs) x) (H:=fun _=>True) J J J (lb J) (fun w1 hs=>jlz _ n n rs w1 (vM (k:=7) J w1 hs) (jjC ht Dc)) ?_
  rintro⟨hA,hc⟩ -
  refine N11 ?_;refine a9 (jT jkx J J (fun w1 hs=>jlb (ngL rs) (hA,hc) (wA,wc) w1 (hs.all 8 _ J).1 (hs.all 2 _ J).1 Om)) ?_;refine S2 ?_;refine W7 83 (.bool false) J (by rw [jkn]) ?_;refine S8 ?_;refine Dh J (F2 _) ?_;refine S10 ?_;refine a9 (jT jkH J J (fun w1 hs=>jlU (ngL rs) (gA,gc) w1 (hs.all 5 _ J).1 Om)) ?_;refine S8 ?_;refine Dh J (jpI _) ?_;refine S9 ?_;refine Dh J (F2 _) ?_;refine S7 ?_;refine jM J (.tmp J) ?_
  intro w' hs
  exact⟨rfl,hs.fin⟩
end Go.Proofs.YtpncbbcmoiiipaaGreat
