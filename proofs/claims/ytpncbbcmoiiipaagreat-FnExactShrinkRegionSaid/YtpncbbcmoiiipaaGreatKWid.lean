import Derived.Test.YtpncbbcmoiiipaaGreatKStroke
import Derived.Test.YtpncbbcmoiiipaaGreatKCmbS
set_option linter.unusedVariables false
set_option linter.unusedSimpArgs false
namespace Go.Proofs.YtpncbbcmoiiipaaGreat
open Go Go.RowKit
set_option maxRecDepth 100000
set_option maxHeartbeats 4000000
def jkK (pen:List Pn) (rs:List jV) :Nat→List jV
 | 0=> []
 | k+1=>jkK pen rs k++rwR pen (rg rs k) true
def fbC (pen:List Pn) (rs:List jV) :Nat→Int
 | 0=>0
 | k+1=>if fbC pen rs k=0 then rwC pen (rg rs k) true else fbC pen rs k
theorem jos {pen:List Pn} {rs:List jV} {k:Nat} (h:¬fbC pen rs k=0) :∀m,fbC pen rs (k+m) =fbC pen rs k
 | 0=>rfl
 | m+1=>by
  show(if fbC pen rs (k+m) =0 then _ else fbC pen rs (k+m)) =_
  rw [jos h m,if_neg h]
theorem jnr {pen:List Pn} {rs:List jV} {k:Nat} (h:fbC pen rs k=0) :fbC pen rs (k+1) =rwC pen (rg rs k) true:=if_pos h
theorem jpN {pen:List Pn} {rs:List jV} {k:Nat} (hk:k<rs.length) (h:fbC pen rs k=0) (h1:¬rwC pen (rg rs k) true=0) :fbC pen rs rs.length=rwC pen (rg rs k) true:=by
 have e:=jnr h
 have:=jos (pen:=pen) (rs:=rs) (k:=k+1) (by rw [e];exact h1) (rs.length- (k+1))
 rw [show k+1+ (rs.length- (k+1)) =rs.length by omega] at this
 rw [this,e]
def jlG (pen:List Pn) (rs:List jV) :Bool:=JE rs&&jkJ pen
def jkh (pen:List Pn) (rs:List jV) :Int:=if jlG pen rs=true then(if fbC pen rs rs.length=0 then LM (jkK pen rs rs.length) else fbC pen rs rs.length) else 1
def V9 (pen:List Pn) (rs:List jV) :List jV:=if jkh pen rs=0 then jkK pen rs rs.length else []
theorem jnh {pen:List Pn} {rs:List jV} (h:jlG pen rs=false) :jkh pen rs=1∧V9 pen rs= [] :=by simp [V9,jkh,h]
theorem joT {pen:List Pn} {rs:List jV} (h:jlG pen rs=true) {k:Nat} (hk:k<rs.length) (h0:fbC pen rs k=0) (h1:¬rwC pen (rg rs k) true=0) :jkh pen rs=rwC pen (rg rs k) true∧V9 pen rs= [] :=by
 have e:=jpN hk h0 h1
 have h2:jkh pen rs=rwC pen (rg rs k) true:=by rw [jkh,if_pos h,if_neg (by rw [e];exact h1),e]
 exact⟨h2,if_neg (by rw [h2];exact h1)⟩
theorem jor {pen:List Pn} {rs:List jV} (h:jlG pen rs=true) (h0:fbC pen rs rs.length=0) (hr:JE (jkK pen rs rs.length) =false) :jkh pen rs=5∧V9 pen rs= [] :=by
 have h2:jkh pen rs=5:=by rw [jkh,if_pos h,if_pos h0];simp [LM,hr]
 exact⟨h2,if_neg (by rw [h2];decide)⟩
theorem joU {pen:List Pn} {rs:List jV} (h:jlG pen rs=true) (h0:fbC pen rs rs.length=0) (hr:JE (jkK pen rs rs.length) =true) :jkh pen rs=0∧V9 pen rs=jkK pen rs rs.length:=by
 have h2:jkh pen rs=0:=by rw [jkh,if_pos h,if_pos h0];simp [LM,hr]
 exact⟨h2,if_pos h2⟩
theorem jmB (pen path:List Pn) (cl:Bool) :JE (rwR pen path cl) =true:=by
 unfold rwR
 split
 ·rename_i h
  unfold rwC at h
  split at h
  ·split at h
   ·unfold LM at h
    split at h
    ·assumption
    ·omega
   ·omega
  ·omega
 ·rfl
theorem jlQ (pen:List Pn) (rs:List jV) :∀k,(jkK pen rs k).length≤40*k
 | 0=>jih _
 | k+1=>by
  have:=jlQ pen rs k
  have:=WR (jmB pen (rg rs k) true)
  rw [jkK,jif]
  omega
theorem jng (pen:List Pn) (rs:List jV) :∀k,∀r∈jkK pen rs k,r.length≤400
 | 0,r,h=>by cases h
 | k+1,r,h=>by
  rcases jiv.1 h with h | h
  ·exact jng pen rs k r h
  ·obtain ⟨j,hj,rfl⟩ :=ji0 h
   rw [Wa hj]
   exact(Qf (Km (jmB pen (rg rs k) true) hj)).2
theorem jmG {pen:List Pn} {rs:List jV} (hr:JE rs=true) {k:Nat} (hk:k≤rs.length) :smallR (jkK pen rs k) :=by
 have h1:=jlQ pen rs k
 have h2:=WR hr
 refine⟨by omega,fun j hj=> ?_⟩
 have:=jng pen rs k (rg (jkK pen rs k) j) (by rw [←Wa hj];exact jis hj)
 omega
theorem jll (pen:List Pn) (rs:List jV) :JE (V9 pen rs) =true:=by
 unfold V9
 split
 ·rename_i h
  unfold jkh at h
  split at h
  ·split at h
   ·unfold LM at h
    split at h
    ·assumption
    ·omega
   ·contradiction
  ·omega
 ·rfl
theorem jlR (A:Option Addr) (n c:Nat) (rs:List jV) (B:Option Addr) (m d:Nat) (pen:List Pn) (w:World) (h:Rings w A n rs) (h2:Pts w B m pen) (ht: (total rs:Int)≤1048577) (hm: (m:Int)≤1048576) :
  Calls Tryz.prog 78 #[qT A n c, .slice B m d] w fun e w'=>∃A' c',e= .returned (.tuple #[qT A' (V9 pen rs).length c', .int .i64 (jkh pen rs)])∧OwnG w.heap.size w'.heap.size w' A' (V9 pen rs).length (V9 pen rs)∧Over w w':=by
 have hl:=h.1
 refine Jh (m:=50) (Tryz.func78) J J (lb J) ?_;refine S3 ?_;refine aX (fun b1=> ?_);refine N1 ?_;refine aL (fun b2=> ?_);refine N6 ?_;refine a9 (jT vG J J (fun w1 hs=>jkm A n c rs w1 (h.over hs.fin) ht)) ?_;refine S2 ?_;refine cV 14 (fun g1=> ?_) (fun g1=> ?_)
 ·refine S8 ?_;refine a9 (JU J J (qg)) ?_;refine S6 ?_;refine qv J (qh (k:=1) J jG J J) (.tmp J) ?_
  intro w' hs
  obtain ⟨e1,e2⟩ :=jnh (pen:=pen) (rs:=rs) (by simp_all [jlG])
  exact⟨none,0,by rw [e1,e2];rfl,by rw [e2];exact OwnG.nil none,hs.fin⟩
 ·refine S3 ?_;refine o9 (jT jlE J J (fun w1 hs=>jnc B m d pen w1 (h2.over hs.fin) hm)) ?_;refine S4 ?_;refine cZ (fun c1=> ?_) (fun c1=> ?_)
  ·refine S2 ?_;refine a9 (JU J J (qg)) ?_;refine S6 ?_;refine qv J (qh (k:=1) J jG J J) (.tmp J) ?_
   intro w' hs
   obtain ⟨e1,e2⟩ :=jnh (pen:=pen) (rs:=rs) (by simp_all [jlG])
   exact⟨none,0,by rw [e1,e2];rfl,by rw [e2];exact OwnG.nil none,hs.fin⟩
  ·have hpen:jkJ pen=true:=by simp_all
   have hr:JE rs=true:=by simp_all
   have hB:jlG pen rs=true:=by rw [jlG,hpen,hr];rfl
   have hn40:=WR hr
   refine S5 ?_;refine aL (fun b3=> ?_);refine N1 ?_;refine Q7 (T:=77) (s:=1) ?_;refine t9 ?_;refine Vq ?_;refine t9 ?_;refine S9 ?_;refine JQ (X:=Nat×(Option Addr×Nat)×List Pc) (fun x=>x.1≤n∧x.2.2.map (·.xs) =jkK pen rs x.1∧fbC pen rs x.1=0) (fun x=>n- x.1) (fun x=> [(23, .int .i64 (x.1:Int))]) (kK [1,4,5,6,21,22]) (fun x=> [.cel b1 26 [.slice A n c], .cel b2 26 [.slice none 0 0], .cel b3 26 [.slice x.2.1.1 x.2.2.length x.2.1.2],JY (Bs.N ⟨w,[]⟩) 77 1 x.2.2.length (x.2.2.map Pc.val) x.2.1,vE x.2.2]) (0,(none,0),[]) (⟨jii _,J,J⟩) ⟨J,sz⟩ (fun _ h=>h) ?_
   intro⟨k,⟨rA,rc⟩,l⟩ hx L hL1
   refine v9 ?_;refine r9 ?_
   obtain ⟨hk,hmp,hfb⟩ :k≤n∧l.map (·.xs) =jkK pen rs k∧fbC pen rs k=0:=hx
   refine S5 ?_;refine cZ (fun c2=> ?_) (fun c2=> ?_)
   ·have hlt:k<n:=Om
    obtain ⟨eb,eo,Ak,ck,rfl,hbB,hcell,hpts,hmax⟩ :=h.at_ hlt
    obtain ⟨z1,z2,z3⟩ :=uJ (Km hr (show k<rs.length by omega))
    have hrl:=WR (jmB pen (rg rs k) true)
    have hll:l.length≤40*k:=by have:=congrArg List.length hmp;have:=jlQ pen rs k;rw [jit] at*;omega
    refine S7 ?_;refine a9 (jk J J JM J (OO hcell hbB)) ?_;refine S1 ?_;refine aL (fun b4=> ?_);refine N9 ?_;refine J4 jkP (X:= (Option Addr×Nat)×List Pc) (v:=fun x=> .tuple #[qT x.1.1 (rwR pen (rg rs k) true).length x.1.2, .int .i64 (rwC pen (rg rs k) true)]) (r:=fun x=>rpR 77 (rwR pen (rg rs k) true).length x) (H:=fun x=>x.2.map (·.xs) =rwR pen (rg rs k) true) J J J (lb J) (fun w1 hs=>jlN B m d pen Ak _ ck (rg rs k) true w1 (h2.over hs.fin) (hpts.over hs.fin) hm Om) ?_
    rintro⟨⟨gA,gc⟩,q⟩ hq
    refine N4 ?_;refine aL (fun b5=> ?_);refine N10 ?_;refine cZ (fun c3=> ?_) (fun c3=> ?_)
    ·refine S2 ?_;refine a9 (JU J J (qg)) ?_;refine S12 ?_;refine qv J (qh (k:=1) J jG J J) (.tmp J) ?_
     intro w' hs
     obtain ⟨e1,e2⟩ :=joT hB (show k<rs.length by omega) hfb (by simpa using c3)
     exact⟨none,0,by rw [e1,e2];rfl,by rw [e2];exact OwnG.nil none,hs.fin⟩
    ·have hz:rwC pen (rg rs k) true=0:=by simpa using c3
     have hql:q.length= (rwR pen (rg rs k) true).length:=by have:=congrArg List.length hq;rwa [jit] at this
     refine S8 ?_;refine JV (k:=3) J jK Jw Dc J Dc J J J (fun w' hs=>jpK (hs.all 6 _ J).1) (joC _) (by unfold maxLen;omega) Om (jih _) (fun r1=> ?_);refine N4 ?_;refine jgb 6 J ?_;refine t9 ?_;refine wN 4 8 J J Dc J ?_;refine t9 ?_;refine joq 4 J ?_;refine t9 ?_
     rw [←jiO]
     rw [←jiO]
     refine S6 ?_
     exact Ji hL1 ((k+1,r1,l++q)) (⟨show k+1≤n by omega,by rw [jiO,hmp,hq];rfl,(jnr hfb).trans hz⟩) (by simp only;omega) ⟨vi Om,sz⟩ (fun _ h=>h.upto ⟨J,J,by rw [jif,hql],by rw [jif,hql],sz⟩)
   ·have hkn:k=rs.length:=Om
    subst hkn
    have hsm:=jmG (pen:=pen) hr (jih rs.length)
    have hll:l.length= (jkK pen rs rs.length).length:=by have:=congrArg List.length hmp;rwa [jit] at this
    refine S9 ?_;refine a9 (jT vG J J (fun w1 hs=>jkm _ _ _ (jkK pen rs rs.length) w1 (Il hs (kr:=3) (kp:=4) J J Dc J J hmp (fun i hi=>jjb (hsm.2 i hi) Dc)).rings (jjC hsm.total Dc))) ?_;refine S2 ?_;refine cZ (fun c4=> ?_) (fun c4=> ?_)
    ·refine S2 ?_;refine a9 (JU J J (qg)) ?_;refine S6 ?_;refine qv J (qh (k:=1) J jG J J) (.tmp J) ?_
     intro w' hs
     obtain ⟨e1,e2⟩ :=jor hB hfb (by simp_all)
     exact⟨none,0,by rw [e1,e2];rfl,by rw [e2];exact OwnG.nil none,hs.fin⟩
    ·refine S10 ?_;refine qv J (qh (k:=1) J jG J J) (.tmp J) ?_
     intro w' hs
     obtain ⟨e1,e2⟩ :=joU hB hfb (by simp_all)
     exact⟨rA,rc,by rw [e1,e2,hll],by rw [e2,←hll];exact Il hs (kr:=3) (kp:=4) rfl rfl Dc rfl rfl hmp (fun i hi=>jjb (hsm.2 i hi) Dc),hs.fin⟩
theorem jlB (bb oo:Nat) (A:Option Addr) (n c:Nat) (rs:List jV) (B:Option Addr) (m d:Nat) (pen:List Pn) (w:World) (hcell0:w.cell? ⟨bb,oo,none⟩ =some (.slice A n c)) (hbb:bb<w.heap.size) (h:Rings w A n rs) (h2:Pts w B m pen) (hm: (m:Int)≤1048576) (hr:JE rs=true) (hpen:jkJ pen=true) :
  Calls Tryz.prog 75 #[.pointer (some ⟨bb,oo,none⟩), .slice B m d] w fun e w'=>∃A' c',e= .returned (.tuple #[qT A' (V9 pen rs).length c', .int .i64 (jkh pen rs)])∧OwnG w.heap.size w'.heap.size w' A' (V9 pen rs).length (V9 pen rs)∧Over w w':=by
 have hl:=h.1
 have hB:jlG pen rs=true:=by rw [jlG,hpen,hr];rfl
 have hn40:=WR hr
 refine Jh (m:=47) (Tryz.func75) J J (lb J) ?_;refine S3 ?_;refine aL (fun b1=> ?_);refine N4 ?_;refine a9 (JU J J (qg)) ?_;refine S1 ?_;refine aL (fun b2=> ?_);refine N3 ?_;refine Q7 (T:=77) (s:=1) ?_;refine t9 ?_;refine Vq ?_;refine t9 ?_;refine S6 ?_;refine JQ (X:=Nat×(Option Addr×Nat)×List Pc) (fun x=>x.1≤n∧x.2.2.map (·.xs) =jkK pen rs x.1∧fbC pen rs x.1=0) (fun x=>n- x.1) (fun x=> [(7, .int .i64 (x.1:Int))]) (kK [0,1,4,5,6]) (fun x=> [.cel b1 26 [.slice none 0 0], .cel b2 26 [.slice x.2.1.1 x.2.2.length x.2.1.2],JY (Bs.N ⟨w,[]⟩) 77 1 x.2.2.length (x.2.2.map Pc.val) x.2.1,vE x.2.2]) (0,(none,0),[]) (⟨jii _,J,J⟩) ⟨J,sz⟩ (fun _ h=>h) ?_
 intro⟨k,⟨rA,rc⟩,l⟩ hx L hL1
 refine v9 ?_;refine r9 ?_
 obtain ⟨hk,hmp,hfb⟩ :k≤n∧l.map (·.xs) =jkK pen rs k∧fbC pen rs k=0:=hx
 refine S7 ?_;refine a9 (jn J J JR (kI hcell0 hbb)) ?_;refine S3 ?_;refine cZ (fun c1=> ?_) (fun c1=> ?_)
 ·have hlt:k<n:=Om
  obtain ⟨eb,eo,Ak,ck,rfl,hbB,hcell,hpts,hmax⟩ :=h.at_ hlt
  obtain ⟨z1,z2,z3⟩ :=uJ (Km hr (show k<rs.length by omega))
  have hrl:=WR (jmB pen (rg rs k) true)
  have hll:l.length≤40*k:=by have:=congrArg List.length hmp;have:=jlQ pen rs k;rw [jit] at*;omega
  refine S10 ?_;refine a9 (jn J J JR (kI hcell0 hbb)) ?_;refine S3 ?_;refine a9 (jn J J JG (NJ hcell hbB)) ?_;refine S1 ?_;refine J4 jlf (X:= (Option Addr×Nat)×List Pc) (v:=fun x=> .tuple #[qT x.1.1 (rwR pen (rg rs k) true).length x.1.2, .int .i64 (rwC pen (rg rs k) true)]) (r:=fun x=>rpR 77 (rwR pen (rg rs k) true).length x) (H:=fun x=>x.2.map (·.xs) =rwR pen (rg rs k) true) J J J (lb J) (fun w1 hs=>jnk B m d pen Ak _ ck (rg rs k) true w1 (h2.over hs.fin) (hpts.over hs.fin) hm Om) ?_
  rintro⟨⟨gA,gc⟩,q⟩ hq
  refine N4 ?_;refine aL (fun b3=> ?_);refine N10 ?_;refine cZ (fun c2=> ?_) (fun c2=> ?_)
  ·refine S2 ?_;refine a9 (JU J J (qg)) ?_;refine S12 ?_;refine qv J (qh (k:=0) J jG J J) (.tmp J) ?_
   intro w' hs
   obtain ⟨e1,e2⟩ :=joT hB (show k<rs.length by omega) hfb (by simpa using c2)
   exact⟨none,0,by rw [e1,e2];rfl,by rw [e2];exact OwnG.nil none,hs.fin⟩
  ·have hz:rwC pen (rg rs k) true=0:=by simpa using c2
   have hql:q.length= (rwR pen (rg rs k) true).length:=by have:=congrArg List.length hq;rwa [jit] at this
   refine S8 ?_;refine JV (k:=2) J jK Jw Dc J Dc J J J (fun w' hs=>jpK (hs.all 4 _ J).1) (joC _) (by unfold maxLen;omega) Om (jih _) (fun r1=> ?_);refine N4 ?_;refine jgb 4 J ?_;refine t9 ?_;refine wN 3 6 J J Dc J ?_;refine t9 ?_;refine joq 3 J ?_;refine t9 ?_
   rw [←jiO]
   rw [←jiO]
   refine S7 ?_
   exact Ji hL1 ((k+1,r1,l++q)) (⟨show k+1≤n by omega,by rw [jiO,hmp,hq];rfl,(jnr hfb).trans hz⟩) (by simp only;omega) ⟨vi Om,sz⟩ (fun _ h=>h.upto ⟨J,by rw [jif,hql],by rw [jif,hql],sz⟩)
 ·have hkn:k=rs.length:=Om
  subst hkn
  have hsm:=jmG (pen:=pen) hr (jih rs.length)
  have hll:l.length= (jkK pen rs rs.length).length:=by have:=congrArg List.length hmp;rwa [jit] at this
  refine S8 ?_;refine a9 (jT Ou J J (fun w1 hs=>jmP _ _ _ (jkK pen rs rs.length) w1 (Il hs (kr:=2) (kp:=3) J J Dc J J hmp (fun i hi=>jjb (hsm.2 i hi) Dc)).rings (jjC hsm.total Dc))) ?_;refine S7 ?_;refine qv J (qh (k:=0) J jG J J) (.tmp J) ?_
  intro w' hs
  by_cases hg:JE (jkK pen rs rs.length) =true
  ·obtain ⟨e1,e2⟩ :=joU hB hfb hg;refine⟨rA,rc,?_,by rw [e2,←hll];exact Il hs (kr:=2) (kp:=3) rfl rfl Dc rfl rfl hmp (fun i hi=>jjb (hsm.2 i hi) Dc),hs.fin⟩;rw [if_pos hg,if_pos hg,if_pos hg,e1,e2,hll,show LM (jkK pen rs rs.length) =0 from if_pos hg]
  ·obtain ⟨e1,e2⟩ :=jor hB hfb (by simpa using hg);refine⟨none,0,?_,by rw [e2];exact OwnG.nil none,hs.fin⟩;rw [if_neg hg,if_neg hg,if_neg hg,e1,e2,show LM (jkK pen rs rs.length) =5 from if_neg hg];rfl
def wdR (pen:List Pn) (rs:List jV) (how:Int) :List jV:=if jkh pen rs=0 then uU rs (V9 pen rs) how else []
def wdC (pen:List Pn) (rs:List jV) (how:Int) :Int:=if jkh pen rs=0 then Gz rs (V9 pen rs) how else jkh pen rs
theorem jmo {pen:List Pn} {rs:List jV} {how:Int} (h:¬jkh pen rs=0) :wdC pen rs how=jkh pen rs∧wdR pen rs how= [] :=⟨if_neg h,if_neg h⟩
theorem jnE {pen:List Pn} {rs:List jV} {how:Int} (h:jkh pen rs=0) :wdC pen rs how=Gz rs (V9 pen rs) how∧wdR pen rs how=uU rs (V9 pen rs) how:=⟨if_pos h,if_pos h⟩
theorem jnp (pen:List Pn) (rs:List jV) (how:Int) :smallR (wdR pen rs how) :=by
 unfold wdR
 split
 ·exact Et _ _ _
 ·exact smallR.nil
theorem jpC {rs ss:List jV} {how:Int} (h1:JE rs=true) (h2:JE ss=true) (hh:HY how=true) :uU rs ss how=LJ rs ss how∧Gz rs ss how=FE rs ss how:=by
 have h:xh rs ss=true:=by unfold xh;rw [h1,h2];rfl
 exact⟨by unfold uU;rw [if_pos h,if_pos hh],by unfold Gz;rw [if_pos h,if_pos hh]⟩
theorem jk6 (A:Option Addr) (n c:Nat) (rs:List jV) (B:Option Addr) (m d:Nat) (pen:List Pn) (w:World) (h:Rings w A n rs) (h2:Pts w B m pen) (ht: (total rs:Int)≤1048576) (hm: (m:Int)≤1048576) :
  Calls Tryz.prog 24 #[qT A n c, .slice B m d] w fun e w'=>∃A' c',e= .returned (.tuple #[qT A' (wdR pen rs 1).length c', .int .i64 (wdC pen rs 1)])∧OwnG w.heap.size w'.heap.size w' A' (wdR pen rs 1).length (wdR pen rs 1)∧Over w w':=by
 have hl:=h.1
 have hn9: (n:Int)≤9223372036854775807:=by unfold total at ht;omega
 refine Jh (m:=23) (Tryz.func24) J J (lb J) ?_;refine S3 ?_;refine aX (fun b1=> ?_);refine N1 ?_;refine aL (fun b2=> ?_);refine N7 ?_;refine J4 jkZ (X:= (Option Addr×Nat)×Nat×Nat) (v:=fun x=> .tuple #[qT x.1.1 (V9 pen rs).length x.1.2, .int .i64 (jkh pen rs)]) (r:=fun x=>Ky (V9 pen rs).length (V9 pen rs) x.2.1 x.2.2 x.1.1) (H:=fun _=>True) J J J (lb J) (fun w1 hs=>KB (V:=fun A' c'=> .tuple #[qT A' (V9 pen rs).length c', .int .i64 (jkh pen rs)]) (jlR A n c rs B m d pen w1 (h.over hs.fin) (h2.over hs.fin) Om hm)) ?_
 rintro⟨⟨gA,gc⟩,glo,ghi⟩ -
 refine N4 ?_;refine aL (fun b3=> ?_);refine N10 ?_;refine cZ (fun c1=> ?_) (fun c1=> ?_)
 ·obtain ⟨e1,e2⟩ :=jmo (pen:=pen) (rs:=rs) (how:=1) (by simpa using c1)
  refine S2 ?_;refine a9 (JU J J (qg)) ?_;refine S7 ?_;refine qv J (qh (k:=1) J jG J J) (.tmp J) ?_
  intro w' hs
  exact⟨none,0,by rw [e1,e2];rfl,by rw [e2];exact OwnG.nil none,hs.fin⟩
 ·have hz:jkh pen rs=0:=by simpa using c1
  obtain ⟨e1,e2⟩ :=jnE (pen:=pen) (rs:=rs) (how:=1) hz
  have hbl:=WR (jll pen rs)
  refine S7 ?_;refine J4 LR (X:= (Option Addr×Nat)×Nat×Nat) (v:=fun x=> .tuple #[qT x.1.1 (uU rs (V9 pen rs) 1).length x.1.2, .int .i64 (Gz rs (V9 pen rs) 1)]) (r:=fun x=>Ky (uU rs (V9 pen rs) 1).length (uU rs (V9 pen rs) 1) x.2.1 x.2.2 x.1.1) (H:=fun _=>True) J J J (lb J) (fun w1 hs=>KB (V:=fun A' c'=> .tuple #[qT A' (uU rs (V9 pen rs) 1).length c', .int .i64 (Gz rs (V9 pen rs) 1)]) (Rg A n c rs _ _ gc (V9 pen rs) w1 (h.over hs.fin) hn9 (vM (k:=2) J w1 hs) Om)) ?_
  rintro⟨⟨oA,oc⟩,olo,ohi⟩ -
  refine N7 ?_;refine qv J (qh (k:=1) J jG J J) (.tmp J) ?_
  intro w' hs
  exact⟨oA,oc,by rw [e1,e2],by rw [e2];exact GN (hs.all 4 _ rfl).1 (fun b hb=> ((hs.all 4 _ rfl).2.1 b hb).elim id (fun h=>by cases h)),hs.fin⟩
theorem jly (A:Option Addr) (n c:Nat) (rs:List jV) (B:Option Addr) (m d:Nat) (pen:List Pn) (w:World) (h:Rings w A n rs) (h2:Pts w B m pen) (ht: (total rs:Int)≤1048576) (hm: (m:Int)≤1048576) :
  Calls Tryz.prog 22 #[qT A n c, .slice B m d] w fun e w'=>∃A' c',e= .returned (.tuple #[qT A' (wdR pen rs 1).length c', .int .i64 (wdC pen rs 1)])∧OwnG w.heap.size w'.heap.size w' A' (wdR pen rs 1).length (wdR pen rs 1)∧Over w w':=by
 have hl:=h.1
 refine Jh (m:=28) (Tryz.func22) J J (lb J) ?_;refine S3 ?_;refine aX (fun b1=> ?_);refine N1 ?_;refine aL (fun b2=> ?_);refine N5 ?_;refine a9 (jT vD J J (fun w1 hs=>ZC _ _ A n c rs w1 (qo (k:=0) J J w1 hs) (J3 (hs.cel (k:=0) J)) (h.over hs.fin) Om)) ?_;refine S2 ?_;refine cV 10 (fun g1=> ?_) (fun g1=> ?_)
 ·refine S8 ?_;refine a9 (JU J J (qg)) ?_;refine S6 ?_;refine qv J (qh (k:=1) J jG J J) (.tmp J) ?_
  intro w' hs
  have hbi:= (jnh (pen:=pen) (rs:=rs) (by simp_all [jlG])).1
  obtain ⟨e1,e2⟩ :=jmo (pen:=pen) (rs:=rs) (how:=1) (by rw [hbi];decide)
  rw [hbi] at e1
  exact⟨none,0,by rw [e1,e2];rfl,by rw [e2];exact OwnG.nil none,hs.fin⟩
 ·refine S3 ?_;refine o9 (jT jkI J J (fun w1 hs=>jlI B m d pen w1 (h2.over hs.fin) hm)) ?_;refine S4 ?_;refine cZ (fun c1=> ?_) (fun c1=> ?_)
  ·refine S2 ?_;refine a9 (JU J J (qg)) ?_;refine S6 ?_;refine qv J (qh (k:=1) J jG J J) (.tmp J) ?_
   intro w' hs
   have hbi:= (jnh (pen:=pen) (rs:=rs) (by simp_all [jlG])).1
   obtain ⟨e1,e2⟩ :=jmo (pen:=pen) (rs:=rs) (how:=1) (by rw [hbi];decide)
   rw [hbi] at e1
   exact⟨none,0,by rw [e1,e2];rfl,by rw [e2];exact OwnG.nil none,hs.fin⟩
  ·have hpen:jkJ pen=true:=by simp_all
   have hr:JE rs=true:=by simp_all
   refine S6 ?_;refine J4 jkQ (X:= (Option Addr×Nat)×Nat×Nat) (v:=fun x=> .tuple #[qT x.1.1 (V9 pen rs).length x.1.2, .int .i64 (jkh pen rs)]) (r:=fun x=>Ky (V9 pen rs).length (V9 pen rs) x.2.1 x.2.2 x.1.1) (H:=fun _=>True) J J J (lb J) (fun w1 hs=>KB (V:=fun A' c'=> .tuple #[qT A' (V9 pen rs).length c', .int .i64 (jkh pen rs)]) (jlB _ _ A n c rs B m d pen w1 (qo (k:=0) J J w1 hs) (J3 (hs.cel (k:=0) J)) (h.over hs.fin) (h2.over hs.fin) hm hr hpen)) ?_
   rintro⟨⟨gA,gc⟩,glo,ghi⟩ -
   refine N4 ?_;refine aL (fun b3=> ?_);refine N10 ?_;refine cZ (fun c2=> ?_) (fun c2=> ?_)
   ·obtain ⟨e1,e2⟩ :=jmo (pen:=pen) (rs:=rs) (how:=1) (by simpa using c2)
    refine S2 ?_;refine a9 (JU J J (qg)) ?_;refine S7 ?_;refine qv J (qh (k:=1) J jG J J) (.tmp J) ?_
    intro w' hs
    exact⟨none,0,by rw [e1,e2];rfl,by rw [e2];exact OwnG.nil none,hs.fin⟩
   ·have hz:jkh pen rs=0:=by simpa using c2
    obtain ⟨e1,e2⟩ :=jnE (pen:=pen) (rs:=rs) (how:=1) hz
    obtain ⟨f1,f2⟩ :=jpC (how:=1) hr (jll pen rs) Dc
    rw [f2] at e1
    rw [f1] at e2
    refine S5 ?_;refine J4 xD (X:= (Option Addr×Nat)×Nat×Nat) (v:=fun x=> .tuple #[qT x.1.1 (LJ rs (V9 pen rs) 1).length x.1.2, .int .i64 (FE rs (V9 pen rs) 1)]) (r:=fun x=>Ky (LJ rs (V9 pen rs) 1).length (LJ rs (V9 pen rs) 1) x.2.1 x.2.2 x.1.1) (H:=fun _=>True) J J J (lb J) (fun w1 hs=>KB (V:=fun A' c'=> .tuple #[qT A' (LJ rs (V9 pen rs) 1).length c', .int .i64 (FE rs (V9 pen rs) 1)]) (Ob _ _ _ _ A n c rs gA _ gc (V9 pen rs) 1 w1 (qo (k:=0) J J w1 hs) (J3 (hs.cel (k:=0) J)) (qo (k:=3) J J w1 hs) (J3 (hs.cel (k:=3) J)) (h.over hs.fin) (vM (k:=2) J w1 hs) hr (jll pen rs))) ?_
    rintro⟨⟨oA,oc⟩,olo,ohi⟩ -
    refine N7 ?_;refine qv J (qh (k:=1) J jG J J) (.tmp J) ?_
    intro w' hs
    exact⟨oA,oc,by rw [e1,e2],by rw [e2];exact GN (hs.all 4 _ rfl).1 (fun b hb=> ((hs.all 4 _ rfl).2.1 b hb).elim id (fun h=>by cases h)),hs.fin⟩
theorem jkU (A:Option Addr) (n c:Nat) (rs:List jV) (B:Option Addr) (m d:Nat) (pen:List Pn) (w:World) (h:Rings w A n rs) (h2:Pts w B m pen) (ht: (total rs:Int)≤1048576) (hm: (m:Int)≤1048576) :
  Calls Tryz.prog 26 #[qT A n c, .slice B m d] w fun e w'=>∃A' c',e= .returned (.tuple #[qT A' (wdR pen rs 3).length c', .int .i64 (wdC pen rs 3)])∧OwnG w.heap.size w'.heap.size w' A' (wdR pen rs 3).length (wdR pen rs 3)∧Over w w':=by
 have hl:=h.1
 have hn9: (n:Int)≤9223372036854775807:=by unfold total at ht;omega
 refine Jh (m:=23) (Tryz.func26) J J (lb J) ?_;refine S3 ?_;refine aX (fun b1=> ?_);refine N1 ?_;refine aL (fun b2=> ?_);refine N7 ?_;refine J4 jkZ (X:= (Option Addr×Nat)×Nat×Nat) (v:=fun x=> .tuple #[qT x.1.1 (V9 pen rs).length x.1.2, .int .i64 (jkh pen rs)]) (r:=fun x=>Ky (V9 pen rs).length (V9 pen rs) x.2.1 x.2.2 x.1.1) (H:=fun _=>True) J J J (lb J) (fun w1 hs=>KB (V:=fun A' c'=> .tuple #[qT A' (V9 pen rs).length c', .int .i64 (jkh pen rs)]) (jlR A n c rs B m d pen w1 (h.over hs.fin) (h2.over hs.fin) Om hm)) ?_
 rintro⟨⟨gA,gc⟩,glo,ghi⟩ -
 refine N4 ?_;refine aL (fun b3=> ?_);refine N10 ?_;refine cZ (fun c1=> ?_) (fun c1=> ?_)
 ·obtain ⟨e1,e2⟩ :=jmo (pen:=pen) (rs:=rs) (how:=3) (by simpa using c1)
  refine S2 ?_;refine a9 (JU J J (qg)) ?_;refine S7 ?_;refine qv J (qh (k:=1) J jG J J) (.tmp J) ?_
  intro w' hs
  exact⟨none,0,by rw [e1,e2];rfl,by rw [e2];exact OwnG.nil none,hs.fin⟩
 ·have hz:jkh pen rs=0:=by simpa using c1
  obtain ⟨e1,e2⟩ :=jnE (pen:=pen) (rs:=rs) (how:=3) hz
  have hbl:=WR (jll pen rs)
  refine S7 ?_;refine J4 jmq (X:= (Option Addr×Nat)×Nat×Nat) (v:=fun x=> .tuple #[qT x.1.1 (uU rs (V9 pen rs) 3).length x.1.2, .int .i64 (Gz rs (V9 pen rs) 3)]) (r:=fun x=>Ky (uU rs (V9 pen rs) 3).length (uU rs (V9 pen rs) 3) x.2.1 x.2.2 x.1.1) (H:=fun _=>True) J J J (lb J) (fun w1 hs=>KB (V:=fun A' c'=> .tuple #[qT A' (uU rs (V9 pen rs) 3).length c', .int .i64 (Gz rs (V9 pen rs) 3)]) (jnF A n c rs _ _ gc (V9 pen rs) w1 (h.over hs.fin) hn9 (vM (k:=2) J w1 hs) Om)) ?_
  rintro⟨⟨oA,oc⟩,olo,ohi⟩ -
  refine N7 ?_;refine qv J (qh (k:=1) J jG J J) (.tmp J) ?_
  intro w' hs
  exact⟨oA,oc,by rw [e1,e2],by rw [e2];exact GN (hs.all 4 _ rfl).1 (fun b hb=> ((hs.all 4 _ rfl).2.1 b hb).elim id (fun h=>by cases h)),hs.fin⟩
theorem jlk (A:Option Addr) (n c:Nat) (rs:List jV) (B:Option Addr) (m d:Nat) (pen:List Pn) (w:World) (h:Rings w A n rs) (h2:Pts w B m pen) (ht: (total rs:Int)≤1048576) (hm: (m:Int)≤1048576) :
  Calls Tryz.prog 25 #[qT A n c, .slice B m d] w fun e w'=>∃A' c',e= .returned (.tuple #[qT A' (wdR pen rs 3).length c', .int .i64 (wdC pen rs 3)])∧OwnG w.heap.size w'.heap.size w' A' (wdR pen rs 3).length (wdR pen rs 3)∧Over w w':=by
 have hl:=h.1
 refine Jh (m:=28) (Tryz.func25) J J (lb J) ?_;refine S3 ?_;refine aX (fun b1=> ?_);refine N1 ?_;refine aL (fun b2=> ?_);refine N5 ?_;refine a9 (jT vD J J (fun w1 hs=>ZC _ _ A n c rs w1 (qo (k:=0) J J w1 hs) (J3 (hs.cel (k:=0) J)) (h.over hs.fin) Om)) ?_;refine S2 ?_;refine cV 10 (fun g1=> ?_) (fun g1=> ?_)
 ·refine S8 ?_;refine a9 (JU J J (qg)) ?_;refine S6 ?_;refine qv J (qh (k:=1) J jG J J) (.tmp J) ?_
  intro w' hs
  have hbi:= (jnh (pen:=pen) (rs:=rs) (by simp_all [jlG])).1
  obtain ⟨e1,e2⟩ :=jmo (pen:=pen) (rs:=rs) (how:=3) (by rw [hbi];decide)
  rw [hbi] at e1
  exact⟨none,0,by rw [e1,e2];rfl,by rw [e2];exact OwnG.nil none,hs.fin⟩
 ·refine S3 ?_;refine o9 (jT jkI J J (fun w1 hs=>jlI B m d pen w1 (h2.over hs.fin) hm)) ?_;refine S4 ?_;refine cZ (fun c1=> ?_) (fun c1=> ?_)
  ·refine S2 ?_;refine a9 (JU J J (qg)) ?_;refine S6 ?_;refine qv J (qh (k:=1) J jG J J) (.tmp J) ?_
   intro w' hs
   have hbi:= (jnh (pen:=pen) (rs:=rs) (by simp_all [jlG])).1
   obtain ⟨e1,e2⟩ :=jmo (pen:=pen) (rs:=rs) (how:=3) (by rw [hbi];decide)
   rw [hbi] at e1
   exact⟨none,0,by rw [e1,e2];rfl,by rw [e2];exact OwnG.nil none,hs.fin⟩
  ·have hpen:jkJ pen=true:=by simp_all
   have hr:JE rs=true:=by simp_all
   refine S6 ?_;refine J4 jkQ (X:= (Option Addr×Nat)×Nat×Nat) (v:=fun x=> .tuple #[qT x.1.1 (V9 pen rs).length x.1.2, .int .i64 (jkh pen rs)]) (r:=fun x=>Ky (V9 pen rs).length (V9 pen rs) x.2.1 x.2.2 x.1.1) (H:=fun _=>True) J J J (lb J) (fun w1 hs=>KB (V:=fun A' c'=> .tuple #[qT A' (V9 pen rs).length c', .int .i64 (jkh pen rs)]) (jlB _ _ A n c rs B m d pen w1 (qo (k:=0) J J w1 hs) (J3 (hs.cel (k:=0) J)) (h.over hs.fin) (h2.over hs.fin) hm hr hpen)) ?_
   rintro⟨⟨gA,gc⟩,glo,ghi⟩ -
   refine N4 ?_;refine aL (fun b3=> ?_);refine N10 ?_;refine cZ (fun c2=> ?_) (fun c2=> ?_)
   ·obtain ⟨e1,e2⟩ :=jmo (pen:=pen) (rs:=rs) (how:=3) (by simpa using c2)
    refine S2 ?_;refine a9 (JU J J (qg)) ?_;refine S7 ?_;refine qv J (qh (k:=1) J jG J J) (.tmp J) ?_
    intro w' hs
    exact⟨none,0,by rw [e1,e2];rfl,by rw [e2];exact OwnG.nil none,hs.fin⟩
   ·have hz:jkh pen rs=0:=by simpa using c2
    obtain ⟨e1,e2⟩ :=jnE (pen:=pen) (rs:=rs) (how:=3) hz
    obtain ⟨f1,f2⟩ :=jpC (how:=3) hr (jll pen rs) Dc
    rw [f2] at e1
    rw [f1] at e2
    refine S5 ?_;refine J4 xD (X:= (Option Addr×Nat)×Nat×Nat) (v:=fun x=> .tuple #[qT x.1.1 (LJ rs (V9 pen rs) 3).length x.1.2, .int .i64 (FE rs (V9 pen rs) 3)]) (r:=fun x=>Ky (LJ rs (V9 pen rs) 3).length (LJ rs (V9 pen rs) 3) x.2.1 x.2.2 x.1.1) (H:=fun _=>True) J J J (lb J) (fun w1 hs=>KB (V:=fun A' c'=> .tuple #[qT A' (LJ rs (V9 pen rs) 3).length c', .int .i64 (FE rs (V9 pen rs) 3)]) (Ob _ _ _ _ A n c rs gA _ gc (V9 pen rs) 3 w1 (qo (k:=0) J J w1 hs) (J3 (hs.cel (k:=0) J)) (qo (k:=3) J J w1 hs) (J3 (hs.cel (k:=3) J)) (h.over hs.fin) (vM (k:=2) J w1 hs) hr (jll pen rs))) ?_
    rintro⟨⟨oA,oc⟩,olo,ohi⟩ -
    refine N7 ?_;refine qv J (qh (k:=1) J jG J J) (.tmp J) ?_
    intro w' hs
    exact⟨oA,oc,by rw [e1,e2],by rw [e2];exact GN (hs.all 4 _ rfl).1 (fun b hb=> ((hs.all 4 _ rfl).2.1 b hb).elim id (fun h=>by cases h)),hs.fin⟩
end Go.Proofs.YtpncbbcmoiiipaaGreat
