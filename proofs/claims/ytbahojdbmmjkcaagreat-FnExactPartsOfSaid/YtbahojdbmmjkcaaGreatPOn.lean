import Derived.Test.YtbahojdbmmjkcaaGreatPDat
import Derived.Test.YtbahojdbmmjkcaaGreatPBounds
import Derived.Test.YtbahojdbmmjkcaaGreatPLegs
set_option linter.unusedVariables false
set_option linter.unusedSimpArgs false
namespace Go.Proofs.YtbahojdbmmjkcaaGreat
open Go Go.RowKit
set_option maxRecDepth 100000
set_option maxHeartbeats 4000000
def NR (ax ay bx b_y px_ py_:Int) :Bool:= (Kc ax ay bx b_y px_ py_==0) &&decide (min ax bx≤px_) &&decide (px_≤max ax bx) &&decide (min ay b_y≤py_) &&decide (py_≤max ay b_y)
abbrev wA (x:Int) :Prop:= -1048576≤x∧x≤1048576
theorem UK (ax ay bx b_y px_ py_:Int) (w:World) (ha:wA ax) (ha':wA ay) (hb:wA bx) (hb':wA b_y) (hp:wA px_) (hp':wA py_) :
  Calls Tryz.prog 165 #[WH ax ay,WH bx b_y,WH px_ py_] w fun e w'=>e= .returned (.bool (NR ax ay bx b_y px_ py_))∧Over w w':=by
 refine jT (m:=52) (Tryz.func165) J J (lb J) ?_;refine S3 ?_;refine aX (fun b1=> ?_);refine N1 ?_;refine aX (fun b2=> ?_);refine N1 ?_;refine aX (fun b3=> ?_);refine N7 ?_;refine a9 (jJ Ke J J (fun w h=>Xt _ _ _ _ _ _ w ha.1 ha.2 ha'.1 ha'.2 hb.1 hb.2 hb'.1 hb'.2 hp.1 hp.2 hp'.1 hp'.2)) ?_;refine S2 ?_;refine cV 12 (fun g1=> ?_) (fun g1=> ?_)
 ·refine S9 ?_;refine o9 (jbI J J J) ?_;refine S8 ?_;refine cV 22 (fun g2=> ?_) (fun g2=> ?_)
  ·refine S13 ?_;refine o9 (jbH J J J) ?_;refine S4 ?_;refine cV 32 (fun g3=> ?_) (fun g3=> ?_)
   ·refine S9 ?_;refine o9 (jbI J J J) ?_;refine S8 ?_;refine cV 42 (fun g4=> ?_) (fun g4=> ?_)
    ·refine S13 ?_;refine o9 (jbH J J J) ?_;refine S6 ?_;refine jL J (.tmp J) ?_
     intro w' hs
     exact⟨Qs (by symm;simp [NR];omega),hs.fin⟩
    ·refine S12 ?_;refine jL J (.tmp J) ?_
     intro w' hs
     exact⟨Qs (by symm;simp [NR];omega),hs.fin⟩
   ·refine S22 ?_;refine jL J (.tmp J) ?_
    intro w' hs
    exact⟨Qs (by symm;simp [NR];omega),hs.fin⟩
  ·refine S32 ?_;refine jL J (.tmp J) ?_
   intro w' hs
   exact⟨Qs (by symm;simp [NR];omega),hs.fin⟩
 ·refine S42 ?_;refine jL J (.tmp J) ?_
  intro w' hs
  exact⟨Qs (by symm;simp [NR];omega),hs.fin⟩
theorem SY (ax ay bx b_y px_ py_:Int) (w:World) :
  Calls Tryz.prog 193 #[WH ax ay,WH bx b_y,WH px_ py_] w fun e w'=>e= .returned (.bool (decide (min ax bx≤px_) &&decide (px_≤max ax bx) &&decide (min ay b_y≤py_) &&decide (py_≤max ay b_y)))∧Over w w':=by
 refine jT (m:=45) (Tryz.func193) J J (lb J) ?_;refine S3 ?_;refine aX (fun b1=> ?_);refine N1 ?_;refine aX (fun b2=> ?_);refine N1 ?_;refine aX (fun b3=> ?_);refine N4 ?_;refine JS 39 ?_;refine dK 0 ?_;refine dK 1 ?_;refine dK 2 ?_;refine dK 3 ?_;refine dZ 4 J (jJ K7 J J (fun w h=>Calls.still (vY _ _ w))) ?_;refine dK 5 ?_;refine dK 6 ?_;refine dK 7 ?_;refine dK 8 ?_;refine cV 15 (fun g1=> ?_) (fun g1=> ?_)
 ·refine eK 9 ?_;refine eK 10 ?_;refine eK 11 ?_;refine eK 12 ?_;refine eK 13 ?_;refine eK 14 ?_;refine eZ 15 J (jJ K6 J J (fun w h=>Calls.still (vX _ _ w))) ?_;refine eK 16 ?_;refine dK 17 ?_;refine dK 18 ?_;refine cV 25 (fun g2=> ?_) (fun g2=> ?_)
  ·refine eK 19 ?_;refine eK 20 ?_;refine eK 21 ?_;refine eK 22 ?_;refine eZ 23 J (jJ K7 J J (fun w h=>Calls.still (vY _ _ w))) ?_;refine eK 24 ?_;refine eK 25 ?_;refine eK 26 ?_;refine dK 27 ?_;refine dK 28 ?_;refine cV 35 (fun g3=> ?_) (fun g3=> ?_)
   ·refine eK 29 ?_;refine eK 30 ?_;refine eK 31 ?_;refine eK 32 ?_;refine eK 33 ?_;refine eK 34 ?_;refine eZ 35 J (jJ K6 J J (fun w h=>Calls.still (vX _ _ w))) ?_;refine eK 36 ?_;refine dK 37 ?_;refine dK 38 ?_;refine JI Kr ?_;refine S2 ?_;refine jL J (.tmp J) ?_
    intro w' hs
    exact⟨Qs (by symm;simp;omega),hs.fin⟩
   ·refine fK 29 ?_;refine fK 30 ?_;refine fK 31 ?_;refine fK 32 ?_;refine fK 33 ?_;refine fK 34 ?_;refine fK 35 ?_;refine fK 36 ?_;refine dK 37 ?_;refine dK 38 ?_;refine JI Kr ?_;refine S2 ?_;refine jL J (.tmp J) ?_
    intro w' hs
    exact⟨Qs (by symm;simp;omega),hs.fin⟩
  ·refine fK 19 ?_;refine fK 20 ?_;refine fK 21 ?_;refine fK 22 ?_;refine fK 23 ?_;refine fK 24 ?_;refine fK 25 ?_;refine fK 26 ?_;refine dK 27 ?_;refine dK 28 ?_;refine fK 29 ?_;refine fK 30 ?_;refine fK 31 ?_;refine fK 32 ?_;refine fK 33 ?_;refine fK 34 ?_;refine fK 35 ?_;refine fK 36 ?_;refine dK 37 ?_;refine dK 38 ?_;refine JI Kr ?_;refine S2 ?_;refine jL J (.tmp J) ?_
   intro w' hs
   exact⟨Qs (by symm;simp;omega),hs.fin⟩
 ·refine fK 9 ?_;refine fK 10 ?_;refine fK 11 ?_;refine fK 12 ?_;refine fK 13 ?_;refine fK 14 ?_;refine fK 15 ?_;refine fK 16 ?_;refine dK 17 ?_;refine dK 18 ?_;refine fK 19 ?_;refine fK 20 ?_;refine fK 21 ?_;refine fK 22 ?_;refine fK 23 ?_;refine fK 24 ?_;refine fK 25 ?_;refine fK 26 ?_;refine dK 27 ?_;refine dK 28 ?_;refine fK 29 ?_;refine fK 30 ?_;refine fK 31 ?_;refine fK 32 ?_;refine fK 33 ?_;refine fK 34 ?_;refine fK 35 ?_;refine fK 36 ?_;refine dK 37 ?_;refine dK 38 ?_;refine JI Kr ?_;refine S2 ?_;refine jL J (.tmp J) ?_
  intro w' hs
  exact⟨Qs (by symm;simp;omega),hs.fin⟩
theorem BA (ax ay bx b_y px_ py_:Int) (w:World) (ha:wA ax) (ha':wA ay) (hb:wA bx) (hb':wA b_y) (hp:wA px_) (hp':wA py_) :
  Calls Tryz.prog 127 #[WH ax ay,WH bx b_y,WH px_ py_] w fun e w'=>e= .returned (.bool (NR ax ay bx b_y px_ py_))∧Over w w':=by
 refine jT (m:=18) (Tryz.func127) J J (lb J) ?_;refine S3 ?_;refine aX (fun b1=> ?_);refine N1 ?_;refine aX (fun b2=> ?_);refine N1 ?_;refine aX (fun b3=> ?_);refine N7 ?_;refine a9 (jJ q7 J J (fun w h=>wu _ _ _ _ _ _ w ha.1 ha.2 ha'.1 ha'.2 hb.1 hb.2 hb'.1 hb'.2 hp.1 hp.2 hp'.1 hp'.2)) ?_;refine S2 ?_;refine cV 12 (fun g1=> ?_) (fun g1=> ?_)
 ·refine S7 ?_;refine o9 (jJ Mn J J (fun w h=>SY _ _ _ _ _ _ w)) ?_;refine S4 ?_;refine jL J (.tmp J) ?_
  intro w' hs
  exact⟨Qs (by simp [NR,g1,Bool.and_assoc]),hs.fin⟩
 ·refine S8 ?_;refine jL J (.tmp J) ?_
  intro w' hs
  exact⟨Qs (by symm;simp [NR];omega),hs.fin⟩
end Go.Proofs.YtbahojdbmmjkcaaGreat
namespace Go.Proofs.YtbahojdbmmjkcaaGreat
open Go Go.RowKit
variable {Q:Exit→Act→World→Prop} {k:Nat} {ops:Array Oper} {rest:List Oper} {rs:List jK} {w:World} {xs:List Value}
theorem IW: (Tryz.prog.info? 147).map (fun i=> (i.zero,i.size,i.bytes)) =some (some (.agg #[.int .i64 0, .int .i64 0, .int .i64 0, .int .i64 0]),4,32) :=by kernel_rfl
theorem SM {b:Nat} {x y z u:Value} {t:TypeId} (h:w.heap[b]? =some (.cells (Value.agg #[x,y,z,u]).cells t (0,0))) :
  w.cell? ⟨b,0,none⟩ =some x∧w.cell? ⟨b,1,none⟩ =some y∧w.cell? ⟨b,2,none⟩ =some z∧w.cell? ⟨b,3,none⟩ =some u:=
 ⟨(cell_of_row w b 0 _ t (0,0) h).trans rfl,(cell_of_row w b 1 _ t (0,0) h).trans rfl,(cell_of_row w b 2 _ t (0,0) h).trans rfl,(cell_of_row w b 3 _ t (0,0) h).trans rfl⟩
theorem BT (w:World) (T s:Nat) : (w.alloc (.cells #[] T)).ownsRow w.heap.size T s (.slice (some ⟨w.heap.size,0,none⟩) 0 0) 0 [] :=
 ⟨by simp, .inr ⟨w.heap.size,0,#[],rfl,jgx _,heap_alloc_new w _,jgx _,by unfold maxLen;omega,by simp,by simp⟩⟩
set_option maxHeartbeats 2000000 in
set_option maxRecDepth 100000 in
theorem un (b1 o1:Nat) (A:Option Addr) (n c:Nat) (xs:List (Int×Int)) (w:World) (hcell:w.cell? ⟨b1,o1,none⟩ =some (.slice A n c)) (hb1:b1<w.heap.size) (h:Pts w A n xs) (hn: (n:Int)≤1048577) :
  Calls Tryz.prog 101 #[.pointer (some ⟨b1,o1,none⟩)] w fun e w'=>∃v,e= .returned v∧v≠ .slice none 0 0∧w'.ownsRow w.heap.size 147 4 v (Jy xs).length ((Jy xs).flatMap jU)∧Over w w':=by
 obtain ⟨i0,hi,hz0,hz1,hz2⟩ :=WY IW
 go_enter Tryz.func101,Tryz.ntmps101
 go_wp2
 go_loopw [3,5] (fun s i wr=>∃k:Nat,k≤n∧i= .int .i64 k∧s≠ .slice none 0 0∧wr.ownsRow w.heap.size 147 4 s (qI xs k).length ((qI xs k).flatMap jU)∧Over w wr) (fun _ i _=>n- (intOf i).toNat)
 case atStart=>exact⟨0,jgw _,rfl,by simp,BT _ _ _,Over.alloc _ _⟩
 case round=>
  rename_i wr
  have hl0:=h.1
  obtain ⟨k,hk,rfl,hnn,hown,hO⟩ :=hrel
  by_cases hlt:k<n
  ·have hl:=h.1
   obtain ⟨b,o,rfl,hbB,hc1,hc2⟩ := (h.over hO).at_ hlt
   obtain ⟨b',o',e,hbB',hc1',hc2'⟩ := (h.over hO).at_ (k:=nx xs k) (by have:=xN (xs:=xs) k Om;omega)
   injection e with e
   injection e with e1 e2 _
   subst e1 e2
   have hnx: ((k:Int) +1).tmod (n:Int) = ((nx xs k:Nat) :Int) :=by rw [Int.tmod_eq_emod_of_nonneg Om];exact Fr hl k
   have hnl:=xN k (show 0<xs.length by omega)
   have hbx:wr.cell? ⟨b1,o1,none⟩ =some (.slice (some ⟨b,o,none⟩) n c) := ((Jt hO).1 _ _ hb1).trans hcell
   have hbz:b1<wr.heap.size:=jgA hb1 hO.size
   rw [hl] at hnl
   have hn0:¬n=0:=by omega
   have Hown:=Lib.hid hown
   have Hnn:=Lib.hid hnn
   have HO:=Lib.hid hO
   have hs:=Lib.hid (Kd xs k)
   generalize px xs k=x at hc1 hs
   generalize py xs k=y at hc2 hs
   generalize px xs (nx xs k) =x' at hc1' hs
   generalize py xs (nx xs k) =y' at hc2' hs
   clear h hl hown hO hnn
   go_wp2
   refine Q0 (B:=ob _) (Over.refl _) Kr (by simp only [jhk,jgD,jgY,Nat.reduceAdd];rfl) (fun hBW=> ?_);refine i8 0 ?_;refine i8 1 ?_;refine i8 2 ?_;refine i8 3 ?_;refine i8 4 ?_;refine i8 5 ?_;refine i8 6 ?_;refine i8 7 ?_;refine i8 8 ?_;refine i8 9 ?_;refine i8 10 ?_;refine i8 11 ?_;refine i8 12 ?_;refine i8 13 ?_;refine i8 14 ?_;refine i8 15 ?_;refine i8 16 ?_;refine i8 17 ?_;refine Hi (i:=18) (k:=19) (by assumption) (by simp only [qx,qy,qF];rfl) (by simp only [qx,qy,qF];rfl) (by rfl) (by rfl) (by rfl) (by rfl) (by rfl) (by rfl) (fun _=>by(go_simp;rfl)) Kr Kr (fun _=>by rfl) (fun _=>by rfl) Kr (by rfl) (by simp [Value.oneCell']) ?_
   intro w2 q1 ho hq1 hl1 hh1 hBx
   replace hBW:=hBx;clear hBx
   simp only [Act.put,qE,jP,jQ]
   obtain ⟨k1,k2,k3,k4⟩ :=SM hh1
   refine QZ Kr (fun w3 h3=> ?_) _
   try clear hBW
   have H3:=Lib.hid (ho.trans h3)
   have l1:= ((Jt h3).1 q1 0 hl1).trans k1
   have l2:= ((Jt h3).1 q1 1 hl1).trans k2
   have l3:= ((Jt h3).1 q1 2 hl1).trans k3
   have l4:= ((Jt h3).1 q1 3 hl1).trans k4
   have hl3:q1<w3.heap.size:=jgA hl1 h3.size
   have hw3:=H3.out.size
   clear k1 k2 k3 k4 ho h3 hh1
   have key: (x=x'∧y=y')∨(¬x=x')∨(x=x'∧¬y=y') :=by omega
   rcases key with⟨rfl,rfl⟩ | hne |⟨rfl,hne⟩
   ·replace hs:Hid (qI xs (k+1) =qI xs k) :=by have:=hs.out;rw [if_pos ⟨rfl,rfl⟩] at this;exact this
    go_wp2
    go_roundw
    case rel=>exact⟨k+1,by omega,by go_num,Hnn.out,by rw [hs.out];exact yc Hown.out H3.out,HO.out.trans H3.out⟩
    case measure=>simp [intOf];omega
   all_goals
    replace hs:=Lib.hid (hs.out.trans (if_neg Om))
    have hlen:=Ki xs k
    go_wp2_with (at_builtin;refine wpList_append_own _ rfl _ _ 89 rfl w.heap.size 147 i0 _ 4 32 Tryz.underlying89 hi hz0 hz1 hz2 rfl Dc _ _ _ rfl ((yc Hown.out H3.out).alloc _) ⟨w3.heap.size,0,none⟩ 1 1 (jU ⟨x,y,_,y'⟩) rfl rfl (BS rfl) (by simp [jU,Value.oneCell']) (by unfold maxLen;omega) Om (by have:=HO.out.size;have:=H3.out.size;simp at*;omega) ?_)
    intro v' w5 hown5 hgrow5 hnn5
    have R0:Hid (v'≠ .slice none 0 0) :=hnn5
    have R1:Hid (Over w w5) :=yO HO.out Hown.out (jgx _) (Over.alloc_ H3.out _) hgrow5
    have R2:Hid (w5.ownsRow w.heap.size 147 4 v' (qI xs (k+1)).length ((qI xs (k+1)).flatMap jU)) :=by
     unfold Hid
     rw [hs.out]
     simpa using hown5
    clear hown5 hgrow5 hnn5
    go_wp2
    go_roundw
    case rel=>exact⟨k+1,by omega,by go_num,R0.out,R2.out,R1.out⟩
    case measure=>simp [intOf];omega
  ·clear h
   have hkn:k=n:=by omega
   have hb':=Lib.hid hO
   have hr:Hid (u3≠ .slice none 0 0∧wr.ownsRow w.heap.size 147 4 u3 (Jy xs).length ((Jy xs).flatMap jU)) :=by
    unfold Hid Jy
    rw [hl0,←hkn]
    exact⟨hnn,hown⟩
   clear hown hO hnn
   go_wp2
   go_ret
   exact⟨_,rfl,hr.out.1,hr.out.2,hb'.out⟩
def qW (rs:List jK) :Nat→List Leg
 | 0=> []
 | k+1=>qW rs k++Jy (rg rs k)
theorem LO (xs:jK) : (Jy xs).length≤xs.length:=Ki xs _
theorem zt (rs:List jK) :∀k,(qW rs k).length≤qD rs k
 | 0=>by simp [qW]
 | k+1=>by
  have:=zt rs k
  have:=LO (rg rs k)
  simp only [qW,qD,jgv]
  omega
def Jx (rs:List jK) :List Leg:=qW rs rs.length
theorem MK {B T s n:Nat} {v:Value} (h:w.ownsRow B T s v n xs) (hv:v≠ .slice none 0 0) :
  ∃g cap,v= .slice (some ⟨g,0,none⟩) n cap∧xs.length=n*s∧∀j u,xs[j]? =some u→w.cell? ((⟨g,0,none⟩ :Addr).add j) =some u:=by
 rcases h.2 with⟨e,_⟩ |⟨g,cap,cur,e,hb,hg,hcap,_⟩
 ·exact absurd e hv
 ·exact⟨g,cap,e,h.1,fun j u hj=>h.cells (by rw [e];rfl) j u hj⟩
theorem Mc:∀ls:List Leg,∀u∈ls.flatMap jU,u.oneCell'=true:=by
 intro ls u hu
 obtain ⟨l,_,hl⟩ :=jh3.1 hu
 simp [jU] at hl
 rcases hl with rfl | rfl | rfl | rfl<;>rfl
set_option maxHeartbeats 2000000 in
set_option maxRecDepth 100000 in
theorem ZG (b1 o1:Nat) (A:Option Addr) (n c:Nat) (rs:List jK) (w:World) (hcell:w.cell? ⟨b1,o1,none⟩ =some (.slice A n c)) (hb1:b1<w.heap.size) (h:Rings w A n rs) (ht: (total rs:Int)≤1048577) :
  Calls Tryz.prog 52 #[.pointer (some ⟨b1,o1,none⟩)] w fun e w'=>∃v,e= .returned v∧v≠ .slice none 0 0∧w'.ownsRow w.heap.size 147 4 v (Jx rs).length ((Jx rs).flatMap jU)∧Over w w':=by
 obtain ⟨i0,hi,hz0,hz1,hz2⟩ :=WY IW
 have hl0:=Lib.hid h.1
 have Ht:=Lib.hid ht
 have hn: (n:Int)≤1048577:=by have:=hl0.out;unfold total at ht;omega
 clear ht
 go_enter Tryz.func52,Tryz.ntmps52
 go_wp2
 go_loopw [3,4] (fun s i wr=>∃k:Nat,k≤n∧i= .int .i64 k∧s≠ .slice none 0 0∧wr.ownsRow w.heap.size 147 4 s (qW rs k).length ((qW rs k).flatMap jU)∧Over w wr) (fun _ i _=>n- (intOf i).toNat)
 case atStart=>exact⟨0,jgw _,rfl,by simp,BT _ _ _,Over.alloc _ _⟩
 case round=>
  rename_i wr
  obtain ⟨k,hk,rfl,hnn,hown,hO⟩ :=hrel
  have hbx:wr.cell? ⟨b1,o1,none⟩ =some (.slice A n c) := ((Jt hO).1 _ _ hb1).trans hcell
  have hbz:b1<wr.heap.size:=jgA hb1 hO.size
  by_cases hlt:k<n
  ·obtain ⟨b,o,Ak,ck,rfl,hbB,hcell2,hpts,hmax⟩ := (h.over hO).at_ hlt
   have hr: ((rg rs k).length:Int)≤1048577:=by have:=Ht.out;have:=KL rs (k:=k) (by rw [hl0.out];exact hlt);omega
   have hs:Hid (qW rs (k+1) =qW rs k++Jy (rg rs k)) :=rfl
   have hsum: (qW rs k).length+ (Jy (rg rs k)).length≤1048577:=by
    have h1:=zt rs (k+1)
    have h2:=Vg rs (show k+1≤n by omega)
    have h3:=Ht.out
    have h4:=hl0.out
    unfold total at h3
    rw [h4] at h3
    simp only [qW,jgv] at h1
    omega
   have Hown:=Lib.hid hown
   have Hnn:=Lib.hid hnn
   have HO:=Lib.hid hO
   clear h hown hO hnn hmax
   go_wp2_with fail
   refine(un _ _ Ak _ ck (rg rs k) _ hcell2 hbB hpts hr).mono ?_
   rintro e w2 ⟨v,rfl,hv,hrow,h2⟩
   obtain ⟨g2,cap2,rfl,hlen2,hcells2⟩ :=MK hrow hv
   have H2:=Lib.hid h2
   clear hrow hv h2 hpts
   go_wp2_with (at_builtin;refine wpList_append_own _ rfl _ _ 89 rfl w.heap.size 147 i0 _ 4 32 Tryz.underlying89 hi hz0 hz1 hz2 rfl Dc _ _ _ rfl (yc Hown.out H2.out) ⟨g2,0,none⟩ (Jy (rg rs k)).length cap2 ((Jy (rg rs k)).flatMap jU) rfl hlen2 hcells2 (Mc _) (by unfold maxLen;omega) Om (by have:=HO.out.size;have:=H2.out.size;omega) ?_)
   intro v' w5 hown5 hgrow5 hnn5
   have R0:Hid (v'≠ .slice none 0 0) :=fun e=>Hnn.out (hnn5.1 e).1
   have R1:Hid (Over w w5) :=yO HO.out Hown.out (jgx _) H2.out hgrow5
   have R2:Hid (w5.ownsRow w.heap.size 147 4 v' (qW rs (k+1)).length ((qW rs (k+1)).flatMap jU)) :=by
    unfold Hid
    rw [hs.out]
    simpa using hown5
   clear hown5 hgrow5 hnn5 hcells2
   go_wp2
   go_roundw
   case rel=>exact⟨k+1,by omega,by go_num,R0.out,R2.out,R1.out⟩
   case measure=>simp [intOf];omega
  ·clear h
   have hkn:k=n:=by omega
   have hb':=Lib.hid hO
   have hr:Hid (u3≠ .slice none 0 0∧wr.ownsRow w.heap.size 147 4 u3 (Jx rs).length ((Jx rs).flatMap jU)) :=by
    unfold Hid Jx
    rw [hl0.out,←hkn]
    exact⟨hnn,hown⟩
   clear hown hO hnn
   go_wp2
   go_ret
   exact⟨_,rfl,hr.out.1,hr.out.2,hb'.out⟩
def JW (rs:List jK) :Bool:=decide (rs.length≤40) &&rs.all qG&&decide ((Jx rs).length≤400)
theorem uq (h:¬rs.length≤40) :JW rs=false:=by simp [JW,h]
theorem Uu (hk:k<rs.length) (h:qG (rg rs k) =false) :JW rs=false:=by
 have:rs.all qG=false:=List.all_eq_false.2 ⟨rs[k],jgH hk,by rw [Vm hk,h];simp⟩
 simp [JW,this]
theorem uX (h:rs.length≤40) (ha:rs.all qG=true) :JW rs=decide ((Jx rs).length≤400) :=by simp [JW,h,ha]
theorem Xp (hk:k<rs.length) (h: (rs.take k).all qG=true) (h2:qG (rg rs k) =true) : (rs.take (k+1)).all qG=true:=by
 rw [jgE hk,List.all_append,h,Vm hk]
 simp [h2]
set_option maxHeartbeats 1000000 in
set_option maxRecDepth 100000 in
theorem Cm (b1 o1:Nat) (A:Option Addr) (n c:Nat) (rs:List jK) (w:World) (hcell:w.cell? ⟨b1,o1,none⟩ =some (.slice A n c)) (hb1:b1<w.heap.size) (h:Rings w A n rs) (ht: (total rs:Int)≤1048577) :
  Calls Tryz.prog 46 #[.pointer (some ⟨b1,o1,none⟩)] w fun e w'=>e= .returned (.bool (JW rs))∧Over w w':=by
 have hl:=Lib.hid h.1
 have Ht:=Lib.hid ht
 have hn: (n:Int)≤1048577:=by have:=hl.out;unfold total at ht;omega
 clear ht
 by_cases h40: (n:Int)≤40
 ·go_enter Tryz.func46,Tryz.ntmps46
  go_wp2
  go_loopw [3] (fun i wr=>∃k:Nat,k≤n∧i= .int .i64 k∧Over w wr∧Hid ((rs.take k).all qG=true)) (fun i _=>n- (intOf i).toNat)
  case atStart=>exact⟨0,jgw _,rfl,Over.refl _,by simp [Hid]⟩
  case round=>
   rename_i wr
   obtain ⟨k,hk,rfl,hO,hall⟩ :=hrel
   have hbx:wr.cell? ⟨b1,o1,none⟩ =some (.slice A n c) := ((Jt hO).1 _ _ hb1).trans hcell
   have hbz:b1<wr.heap.size:=jgA hb1 hO.size
   by_cases hlt:k<n
   ·obtain ⟨b,o,Ak,ck,rfl,hbB,hcell2,hpts,hmax⟩ := (h.over hO).at_ hlt
    have hr: ((rg rs k).length:Int)≤1048577:=by have:=Ht.out;have:=KL rs (k:=k) (by rw [hl.out];exact hlt);omega
    have HO:=Lib.hid hO
    clear h hO hmax
    cases hv:qG (rg rs k)
    ·have hq:=Lib.hid (Uu (by rw [hl.out];exact hlt) hv)
     go_wp2_with fail
     refine(GO _ _ Ak _ ck (rg rs k) _ hcell2 hpts hr).mono ?_
     rw [hv]
     rintro e w2 ⟨rfl,h2⟩
     go_wp2
     go_ret
     exact⟨by rw [hq.out];rfl,HO.out.trans h2⟩
    ·have hs:=Lib.hid (Xp (by rw [hl.out];exact hlt) hall.out hv)
     clear hall
     go_wp2_with fail
     refine(GO _ _ Ak _ ck (rg rs k) _ hcell2 hpts hr).mono ?_
     rw [hv]
     rintro e w2 ⟨rfl,h2⟩
     go_wp2
     go_roundw
     case rel=>exact⟨k+1,by omega,by go_num,HO.out.trans h2,hs⟩
     case measure=>simp [intOf];omega
   ·have hkn:k=n:=by omega
    have ha:rs.all qG=true:=by have:=hall.out;rwa [jgR (by rw [hl.out];omega)] at this
    have hq:=Lib.hid (uX (by rw [hl.out];omega) ha)
    clear ha hall
    go_wp2_with fail
    refine(ZG _ _ A n c rs _ hbx hbz (h.over hO) Ht.out).mono ?_
    rintro e w2 ⟨v,rfl,hv,hrow,h2⟩
    obtain ⟨g2,cap2,rfl,-,-⟩ :=MK hrow hv
    clear hrow hv
    go_wp2
    go_ret
    exact⟨by rw [hq.out];simp;omega,hO.trans h2⟩
 ·have hq:=Lib.hid (uq (rs:=rs) (by rw [hl.out];omega))
  clear h
  go_enter Tryz.func46,Tryz.ntmps46
  go_wp2
  go_ret
  exact⟨by rw [hq.out];rfl,ov9⟩
set_option maxHeartbeats 1000000 in
set_option maxRecDepth 100000 in
theorem Hn (A:Option Addr) (n c:Nat) (rs:List jK) (w:World) (h:Rings w A n rs) (ht: (total rs:Int)≤1048577) :
  Calls Tryz.prog 53 #[qK A n c] w fun e w'=>e= .returned (.bool (JW rs))∧Over w w':=by
 have hl:=Lib.hid h.1
 have Ht:=Lib.hid ht
 have hn: (n:Int)≤1048577:=by have:=hl.out;unfold total at ht;omega
 clear ht
 by_cases h40: (n:Int)≤40
 ·go_enter Tryz.func53,Tryz.ntmps53
  go_wp2
  go_loopw [3,13] (fun s i wr=>∃k:Nat,k≤n∧i= .int .i64 k∧s= .int .i64 (qW rs k).length∧Over w wr∧Hid ((rs.take k).all qG=true)) (fun _ i _=>n- (intOf i).toNat)
  case atStart=>exact⟨0,jgw _,rfl,rfl,Over.alloc _ _,by simp [Hid]⟩
  case round=>
   rename_i wr
   obtain ⟨k,hk,rfl,rfl,hO,hall⟩ :=hrel
   by_cases hlt:k<n
   ·obtain ⟨b,o,Ak,ck,rfl,hbB,hcell2,hpts,hmax⟩ := (h.over hO).at_ hlt
    have hr: ((rg rs k).length:Int)≤1048577:=by have:=Ht.out;have:=KL rs (k:=k) (by rw [hl.out];exact hlt);omega
    have hs2:Hid (qW rs (k+1) =qW rs k++Jy (rg rs k)) :=rfl
    have hsum: (qW rs k).length+ (Jy (rg rs k)).length≤1048577:=by
     have h1:=zt rs (k+1)
     have h2:=Vg rs (show k+1≤n by omega)
     have h3:=Ht.out
     have h4:=hl.out
     unfold total at h3
     rw [h4] at h3
     simp only [qW,jgv] at h1
     omega
    have HO:=Lib.hid hO
    have HP:=Lib.hid hpts
    clear h hO hmax hpts
    cases hv:qG (rg rs k)
    ·have hq:=Lib.hid (Uu (by rw [hl.out];exact hlt) hv)
     go_wp2_with fail
     refine(z8 _ _ _ (rg rs k) _ (HP.out.over ov9) hr).mono ?_
     rw [hv]
     rintro e w2 ⟨rfl,h2⟩
     have HO2:=Lib.hid (HO.out.trans ((Over.alloc _ _).trans h2))
     go_wp2
     go_ret
     exact⟨by rw [hq.out];rfl,HO2.out⟩
    ·have hs:=Lib.hid (Xp (by rw [hl.out];exact hlt) hall.out hv)
     clear hall
     go_wp2_with fail
     refine(z8 _ _ _ (rg rs k) _ (HP.out.over ov9) hr).mono ?_
     rw [hv]
     rintro e w2 ⟨rfl,h2⟩
     obtain ⟨hc,hf⟩ :=Jt h2
     go_wp2_with fail
     refine(kb _ _ _ (rg rs k) _ (HP.out.over ((Over.alloc _ _).trans h2)) hr).mono ?_
     rintro e w3 ⟨v,rfl,hrow,h3⟩
     obtain ⟨A2,c2,rfl,-,-⟩ :=YY hrow rfl
     have HO2:=Lib.hid (HO.out.trans ((Over.alloc _ _).trans (h2.trans h3)))
     clear hrow h2 h3 hc hf
     go_wp2
     go_roundw
     case rel=>exact⟨k+1,by omega,by go_num,by rw [hs2.out,jgv];go_num,HO2.out,hs⟩
     case measure=>simp [intOf];omega
   ·have hkn:k=n:=by omega
    have ha:rs.all qG=true:=by have:=hall.out;rwa [jgR (by rw [hl.out];omega)] at this
    have hq:=Lib.hid (uX (by rw [hl.out];omega) ha)
    have he:Hid (qW rs n=Jx rs) :=by unfold Hid Jx;rw [hl.out]
    clear ha hall h
    go_wp2
    go_ret
    exact⟨by rw [hq.out];simp;rw [he.out];omega,hO⟩
 ·have hq:=Lib.hid (uq (rs:=rs) (by rw [hl.out];omega))
  clear h
  go_enter Tryz.func53,Tryz.ntmps53
  go_wp2
  go_ret
  exact⟨by rw [hq.out];rfl,ov9⟩
theorem XB {P:Program} (w:World) {o:Oper} {a:Act} (hgd:o.guard=none) (s x:Operand) (t:TypeId) (ho:o.op= .call {callee:= .builtin .append,args:= #[s,x],argTypes:= #[t,t]}) (base:Nat) (e:TypeId) (i:TypeInfo) (z:Value) (size bytes:Nat) (ht:P.underlying t=some (.slice e)) (hi:P.info? e=some i) (hz:i.zero=some z) (hsize:i.size=size) (hby:i.bytes=bytes) (hzs:z.cells.size=size) (hsz:0<size) (v:Value) (n:Nat) (xs:List Value) (hs:a.eval s=v) (hown:w.ownsRow base e size v n xs) (B2:Nat) (v2:Value) (m:Nat) (news:List Value) (hx:a.eval x=v2) (hrow:w.ownsRow B2 e size v2 m news) (h1:∀u∈news,u.oneCell'=true) (h63:n+m≤maxLen) (hbytes: (n+m) *bytes≤140737488355328) (hbase:base≤w.heap.size) (h:∀v' w',w'.ownsRow base e size v' (n+m) (xs++news)→w.grownBy w' v.ownBlock→wpList P ops Q rest (a.put o.dst v') w') :wpList P ops Q (o::rest) a w:=by
 by_cases hv:v2= .slice none 0 0
 ·subst hv
  have hm:m=0:=by
   rcases hrow.2 with⟨_,hm⟩ |⟨g,cap,cur,e,_⟩
   ·exact hm
   ·cases e
  subst hm
  have hnews:news= [] :=jgX (by simpa using hrow.1)
  subst hnews
  refine wpList_plain hgd fun K hK'=> ?_
  have hrun:=run_append_owned_none (P:=P) w base t o.type e i size ht hi v n xs hown
  unfold Oper.wp
  simp [execOp,ho,resolve,invoke,builtin,hs,hx,hrun,Result.andThen]
  exact hK' _ _ (by simpa using h v w (by simpa using hown) (World.grownBy.refl _ _))
 ·obtain ⟨g,cap,rfl,hl,hc⟩ :=MK hrow hv
  exact wpList_append_own w hgd s x t ho base e i z size bytes ht hi hz hsize hby hzs hsz v n xs hs hown ⟨g,0,none⟩ m cap news hx hl hc h1 h63 hbytes hbase (fun v' w' h2 h3 _=>h v' w' h2 h3)
set_option maxHeartbeats 2000000 in
set_option maxRecDepth 100000 in
theorem vV (A:Option Addr) (n c:Nat) (rs:List jK) (w:World) (h:Rings w A n rs) (ht: (total rs:Int)≤1048577) :
  Calls Tryz.prog 56 #[qK A n c] w fun e w'=>∃v,e= .returned v∧w'.ownsRow w.heap.size 96 4 v (Jx rs).length ((Jx rs).flatMap jU)∧Over w w':=by
 obtain ⟨i0,hi,hz0,hz1,hz2⟩ :=WY NA
 have hl0:=Lib.hid h.1
 have Ht:=Lib.hid ht
 have hn: (n:Int)≤1048577:=by have:=hl0.out;unfold total at ht;omega
 clear ht
 go_enter Tryz.func56,Tryz.ntmps56
 go_wp2
 go_loopw [3,9] (fun s i wr=>∃k:Nat,k≤n∧i= .int .i64 k∧wr.ownsRow w.heap.size 96 4 s (qW rs k).length ((qW rs k).flatMap jU)∧Over w wr) (fun _ i _=>n- (intOf i).toNat)
 case atStart=>exact⟨0,jgw _,rfl,World.ownsRow_nil _ _ _ _,Over.alloc _ _⟩
 case round=>
  rename_i wr
  obtain ⟨k,hk,rfl,hown,hO⟩ :=hrel
  by_cases hlt:k<n
  ·obtain ⟨b,o,Ak,ck,rfl,hbB,hcell2,hpts,hmax⟩ := (h.over hO).at_ hlt
   have hr: ((rg rs k).length:Int)≤1048577:=by have:=Ht.out;have:=KL rs (k:=k) (by rw [hl0.out];exact hlt);omega
   have hs:Hid (qW rs (k+1) =qW rs k++Jy (rg rs k)) :=rfl
   have hsum: (qW rs k).length+ (Jy (rg rs k)).length≤1048577:=by
    have h1:=zt rs (k+1)
    have h2:=Vg rs (show k+1≤n by omega)
    have h3:=Ht.out
    have h4:=hl0.out
    unfold total at h3
    rw [h4] at h3
    simp only [qW,jgv] at h1
    omega
   have Hown:=Lib.hid hown
   have HO:=Lib.hid hO
   have HP:=Lib.hid hpts
   clear h hown hO hmax hpts
   go_wp2_with fail
   refine(kb _ _ _ (rg rs k) _ (HP.out.over ov9) hr).mono ?_
   rintro e w2 ⟨v,rfl,hrow,h2⟩
   have H2:=Lib.hid ((Over.alloc wr (.cells #[.slice Ak (rg rs k).length ck] 74)).trans h2)
   have Hrow:=Lib.hid hrow
   clear hrow h2
   go_wp2_with (at_builtin;refine XB _ rfl _ _ 93 rfl w.heap.size 96 i0 _ 4 32 Tryz.underlying93 hi hz0 hz1 hz2 rfl Dc _ _ _ rfl (yc Hown.out H2.out) _ _ _ _ rfl Hrow.out (Mc _) (by unfold maxLen;omega) Om (by have:=HO.out.size;have:=H2.out.size;omega) ?_)
   intro v' w5 hown5 hgrow5
   have R1:Hid (Over w w5) :=yO HO.out Hown.out (jgx _) H2.out hgrow5
   have R2:Hid (w5.ownsRow w.heap.size 96 4 v' (qW rs (k+1)).length ((qW rs (k+1)).flatMap jU)) :=by
    unfold Hid
    rw [hs.out]
    simpa using hown5
   clear hown5 hgrow5
   go_wp2
   go_roundw
   case rel=>exact⟨k+1,by omega,by go_num,R2.out,R1.out⟩
   case measure=>simp [intOf];omega
  ·clear h
   have hkn:k=n:=by omega
   have hb':=Lib.hid hO
   have hr:Hid (wr.ownsRow w.heap.size 96 4 u3 (Jx rs).length ((Jx rs).flatMap jU)) :=by
    unfold Hid Jx
    rw [hl0.out,←hkn]
    exact hown
   clear hown hO
   go_wp2
   go_ret
   exact⟨_,rfl,hr.out,hb'.out⟩
end Go.Proofs.YtbahojdbmmjkcaaGreat
