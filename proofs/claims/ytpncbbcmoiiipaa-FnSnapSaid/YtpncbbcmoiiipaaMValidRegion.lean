import Derived.Test.YtpncbbcmoiiipaaMLegs
import Derived.Test.YtpncbbcmoiiipaaMRegion
set_option linter.unusedVariables false
set_option linter.unusedSimpArgs false
namespace Go.Proofs.Ytpncbbcmoiiipaa
open Go Go.RowKit
theorem zP: (Try.prog.info? 85).map (fun i=> (i.zero,i.size,i.bytes)) =some (some (.agg #[.int .i64 0, .int .i64 0, .int .i64 0, .int .i64 0]),4,32) :=by kernel_rfl
theorem xg {w:World} {b:Nat} {x y z u:Value} {t:TypeId} (h:w.heap[b]? =some (.cells (Value.agg #[x,y,z,u]).cells t (0,0))) :
  w.cell? ⟨b,0,none⟩ =some x∧w.cell? ⟨b,1,none⟩ =some y∧w.cell? ⟨b,2,none⟩ =some z∧w.cell? ⟨b,3,none⟩ =some u:=
 ⟨(cell_of_row w b 0 _ t (0,0) h).trans rfl,(cell_of_row w b 1 _ t (0,0) h).trans rfl,(cell_of_row w b 2 _ t (0,0) h).trans rfl,(cell_of_row w b 3 _ t (0,0) h).trans rfl⟩
theorem Yf (w:World) (T s:Nat) : (w.alloc (.cells #[] T)).ownsRow w.heap.size T s (.slice (some ⟨w.heap.size,0,none⟩) 0 0) 0 [] :=
 ⟨by simp, .inr ⟨w.heap.size,0,#[],rfl,DM _,heap_alloc_new w _,DM _,by unfold maxLen;omega,by simp,by simp⟩⟩
set_option maxHeartbeats 2000000 in
set_option maxRecDepth 100000 in
theorem YU (b1 o1:Nat) (A:Option Addr) (n c:Nat) (xs:List (Int×Int)) (w:World) (hcell:w.cell? ⟨b1,o1,none⟩ =some (.slice A n c)) (hb1:b1<w.heap.size) (h:Pts w A n xs) (hn: (n:Int)≤1048577) :
  Calls Try.prog 39 #[.pointer (some ⟨b1,o1,none⟩)] w fun e w'=>∃v,e= .returned v∧v≠ .slice none 0 0∧w'.ownsRow w.heap.size 85 4 v (Jf xs).length ((Jf xs).flatMap JH)∧Over w w':=by
 obtain ⟨i0,hi,hz0,hz1,hz2⟩ :=va zP
 go_enter Try.func39,Try.ntmps39
 go_wp2
 go_loopw [3,5] (fun s i wr=>∃k:Nat,k≤n∧i= .int .i64 k∧s≠ .slice none 0 0∧wr.ownsRow w.heap.size 85 4 s (JK xs k).length ((JK xs k).flatMap JH)∧Over w wr) (fun _ i _=>n- (intOf i).toNat)
 case atStart=>exact⟨0,DQ _,rfl,by simp,Yf _ _ _,Over.alloc _ _⟩
 case round=>
  rename_i wr
  have hl0:=h.1
  obtain ⟨k,hk,rfl,hnn,hown,hO⟩ :=hrel
  by_cases hlt:k<n
  ·have hl:=h.1
   obtain ⟨b,o,rfl,hbB,hc1,hc2⟩ := (h.over hO).at_ hlt
   obtain ⟨b',o',e,hbB',hc1',hc2'⟩ := (h.over hO).at_ (k:=nx xs k) (by have:=Yd (xs:=xs) k Om;omega)
   injection e with e
   injection e with e1 e2 _
   subst e1 e2
   have hnx: ((k:Int) +1).tmod (n:Int) = ((nx xs k:Nat) :Int) :=by rw [Int.tmod_eq_emod_of_nonneg Om];exact xA hl k
   have hnl:=Yd k (show 0<xs.length by omega)
   have hbx:wr.cell? ⟨b1,o1,none⟩ =some (.slice (some ⟨b,o,none⟩) n c) := ((jD hO).1 _ _ hb1).trans hcell
   have hbz:b1<wr.heap.size:=DS hb1 hO.size
   rw [hl] at hnl
   have hn0:¬n=0:=by omega
   have Hown:=Lib.hid hown
   have Hnn:=Lib.hid hnn
   have HO:=Lib.hid hO
   have hs:=Lib.hid (q5 xs k)
   generalize px xs k=x at hc1 hs
   generalize py xs k=y at hc2 hs
   generalize px xs (nx xs k) =x' at hc1' hs
   generalize py xs (nx xs k) =y' at hc2' hs
   clear h hl hown hO hnn
   go_wp2
   refine Qc (B:=ob _) (Over.refl _) Kr (by simp only [Fz,DT,D8,Nat.reduceAdd];rfl) (fun hBW=> ?_);refine i8 0 ?_;refine i8 1 ?_;refine i8 2 ?_;refine i8 3 ?_;refine i8 4 ?_;refine i8 5 ?_;refine i8 6 ?_;refine i8 7 ?_;refine i8 8 ?_;refine i8 9 ?_;refine i8 10 ?_;refine i8 11 ?_;refine i8 12 ?_;refine i8 13 ?_;refine i8 14 ?_;refine i8 15 ?_;refine i8 16 ?_;refine i8 17 ?_;refine uL (i:=18) (k:=19) (by assumption) (by simp only [JZ,J0,J9];rfl) (by simp only [JZ,J0,J9];rfl) (by rfl) (by rfl) (by rfl) (by rfl) (by rfl) (by rfl) (fun _=>by(go_simp;rfl)) Kr Kr (fun _=>by rfl) (fun _=>by rfl) Kr (by rfl) (by simp [Value.oneCell']) ?_
   intro w2 q1 ho hq1 hl1 hh1 hBx
   replace hBW:=hBx;clear hBx
   simp only [Act.put,qa,jP,jQ]
   obtain ⟨k1,k2,k3,k4⟩ :=xg hh1
   refine Qb Kr (fun w3 h3=> ?_) _
   try clear hBW
   have H3:=Lib.hid (ho.trans h3)
   have l1:= ((jD h3).1 q1 0 hl1).trans k1
   have l2:= ((jD h3).1 q1 1 hl1).trans k2
   have l3:= ((jD h3).1 q1 2 hl1).trans k3
   have l4:= ((jD h3).1 q1 3 hl1).trans k4
   have hl3:q1<w3.heap.size:=DS hl1 h3.size
   have hw3:=H3.out.size
   clear k1 k2 k3 k4 ho h3 hh1
   have key: (x=x'∧y=y')∨(¬x=x')∨(x=x'∧¬y=y') :=by omega
   rcases key with⟨rfl,rfl⟩ | hne |⟨rfl,hne⟩
   ·replace hs:Hid (JK xs (k+1) =JK xs k) :=by have:=hs.out;rw [if_pos ⟨rfl,rfl⟩] at this;exact this
    go_wp2
    go_roundw
    case rel=>exact⟨k+1,by omega,by go_num,Hnn.out,by rw [hs.out];exact vM Hown.out H3.out,HO.out.trans H3.out⟩
    case measure=>simp [intOf];omega
   all_goals
    replace hs:=Lib.hid (hs.out.trans (if_neg Om))
    have hlen:=QI xs k
    go_wp2_with (at_builtin;refine wpList_append_own _ rfl _ _ 56 rfl w.heap.size 85 i0 _ 4 32 Try.underlying56 hi hz0 hz1 hz2 rfl Dc _ _ _ rfl ((vM Hown.out H3.out).alloc _) ⟨w3.heap.size,0,none⟩ 1 1 (JH ⟨x,y,_,y'⟩) rfl rfl (Ye rfl) (by simp [JH,Value.oneCell']) (by unfold maxLen;omega) Om (by have:=HO.out.size;have:=H3.out.size;simp at*;omega) ?_)
    intro v' w5 hown5 hgrow5 hnn5
    have R0:Hid (v'≠ .slice none 0 0) :=hnn5
    have R1:Hid (Over w w5) :=Vc HO.out Hown.out (DM _) (Over.alloc_ H3.out _) hgrow5
    have R2:Hid (w5.ownsRow w.heap.size 85 4 v' (JK xs (k+1)).length ((JK xs (k+1)).flatMap JH)) :=by
     unfold Hid
     rw [hs.out]
     simpa using hown5
    clear hown5 hgrow5 hnn5
    go_wp2
    go_roundw
    case rel=>exact⟨k+1,by omega,by go_num,R0.out,R2.out,R1.out⟩
    case measure=>simp [intOf];omega
  ·clear h
   have hkn:k=n:=by omega
   have hb':=Lib.hid hO
   have hr:Hid (u3≠ .slice none 0 0∧wr.ownsRow w.heap.size 85 4 u3 (Jf xs).length ((Jf xs).flatMap JH)) :=by
    unfold Hid Jf
    rw [hl0,←hkn]
    exact⟨hnn,hown⟩
   clear hown hO hnn
   go_wp2
   go_ret
   exact⟨_,rfl,hr.out.1,hr.out.2,hb'.out⟩
def JJ (rs:List jx) :Nat→List Leg
 | 0=> []
 | k+1=>JJ rs k++Jf (rg rs k)
theorem xc (xs:jx) : (Jf xs).length≤xs.length:=QI xs _
theorem vv (rs:List jx) :∀k,(JJ rs k).length≤K0 rs k
 | 0=>by simp [JJ]
 | k+1=>by
  have:=vv rs k
  have:=xc (rg rs k)
  simp only [JJ,K0,DK]
  omega
def jv (rs:List jx) :List Leg:=JJ rs rs.length
theorem U7 {w:World} {B T s n:Nat} {v:Value} {xs:List Value} (h:w.ownsRow B T s v n xs) (hv:v≠ .slice none 0 0) :
  ∃g cap,v= .slice (some ⟨g,0,none⟩) n cap∧xs.length=n*s∧∀j u,xs[j]? =some u→w.cell? ((⟨g,0,none⟩ :Addr).add j) =some u:=by
 rcases h.2 with⟨e,_⟩ |⟨g,cap,cur,e,hb,hg,hcap,_⟩
 ·exact absurd e hv
 ·exact⟨g,cap,e,h.1,fun j u hj=>h.cells (by rw [e];rfl) j u hj⟩
theorem Zb:∀ls:List Leg,∀u∈ls.flatMap JH,u.oneCell'=true:=by
 intro ls u hu
 obtain ⟨l,_,hl⟩ :=List.mem_flatMap.1 hu
 simp [JH] at hl
 rcases hl with rfl | rfl | rfl | rfl<;>rfl
set_option maxHeartbeats 2000000 in
set_option maxRecDepth 100000 in
theorem UT (b1 o1:Nat) (A:Option Addr) (n c:Nat) (rs:List jx) (w:World) (hcell:w.cell? ⟨b1,o1,none⟩ =some (.slice A n c)) (hb1:b1<w.heap.size) (h:Rings w A n rs) (ht: (Qq rs:Int)≤1048577) :
  Calls Try.prog 21 #[.pointer (some ⟨b1,o1,none⟩)] w fun e w'=>∃v,e= .returned v∧v≠ .slice none 0 0∧w'.ownsRow w.heap.size 85 4 v (jv rs).length ((jv rs).flatMap JH)∧Over w w':=by
 obtain ⟨i0,hi,hz0,hz1,hz2⟩ :=va zP
 have hl0:=Lib.hid h.1
 have Ht:=Lib.hid ht
 have hn: (n:Int)≤1048577:=by have:=hl0.out;unfold Qq at ht;omega
 clear ht
 go_enter Try.func21,Try.ntmps21
 go_wp2
 go_loopw [3,4] (fun s i wr=>∃k:Nat,k≤n∧i= .int .i64 k∧s≠ .slice none 0 0∧wr.ownsRow w.heap.size 85 4 s (JJ rs k).length ((JJ rs k).flatMap JH)∧Over w wr) (fun _ i _=>n- (intOf i).toNat)
 case atStart=>exact⟨0,DQ _,rfl,by simp,Yf _ _ _,Over.alloc _ _⟩
 case round=>
  rename_i wr
  obtain ⟨k,hk,rfl,hnn,hown,hO⟩ :=hrel
  have hbx:wr.cell? ⟨b1,o1,none⟩ =some (.slice A n c) := ((jD hO).1 _ _ hb1).trans hcell
  have hbz:b1<wr.heap.size:=DS hb1 hO.size
  by_cases hlt:k<n
  ·obtain ⟨b,o,Ak,ck,rfl,hbB,hcell2,hpts,hmax⟩ := (h.over hO).at_ hlt
   have hr: ((rg rs k).length:Int)≤1048577:=by have:=Ht.out;have:=kN rs (k:=k) (by rw [hl0.out];exact hlt);omega
   have hs:Hid (JJ rs (k+1) =JJ rs k++Jf (rg rs k)) :=rfl
   have hsum: (JJ rs k).length+ (Jf (rg rs k)).length≤1048577:=by
    have h1:=vv rs (k+1)
    have h2:=Vk rs (show k+1≤n by omega)
    have h3:=Ht.out
    have h4:=hl0.out
    unfold Qq at h3
    rw [h4] at h3
    simp only [JJ,DK] at h1
    omega
   have Hown:=Lib.hid hown
   have Hnn:=Lib.hid hnn
   have HO:=Lib.hid hO
   clear h hown hO hnn hmax
   go_wp2_with fail
   refine(YU _ _ Ak _ ck (rg rs k) _ hcell2 hbB hpts hr).mono ?_
   rintro e w2 ⟨v,rfl,hv,hrow,h2⟩
   obtain ⟨g2,cap2,rfl,hlen2,hcells2⟩ :=U7 hrow hv
   have H2:=Lib.hid h2
   clear hrow hv h2 hpts
   go_wp2_with (at_builtin;refine wpList_append_own _ rfl _ _ 56 rfl w.heap.size 85 i0 _ 4 32 Try.underlying56 hi hz0 hz1 hz2 rfl Dc _ _ _ rfl (vM Hown.out H2.out) ⟨g2,0,none⟩ (Jf (rg rs k)).length cap2 ((Jf (rg rs k)).flatMap JH) rfl hlen2 hcells2 (Zb _) (by unfold maxLen;omega) Om (by have:=HO.out.size;have:=H2.out.size;omega) ?_)
   intro v' w5 hown5 hgrow5 hnn5
   have R0:Hid (v'≠ .slice none 0 0) :=fun e=>Hnn.out (hnn5.1 e).1
   have R1:Hid (Over w w5) :=Vc HO.out Hown.out (DM _) H2.out hgrow5
   have R2:Hid (w5.ownsRow w.heap.size 85 4 v' (JJ rs (k+1)).length ((JJ rs (k+1)).flatMap JH)) :=by
    unfold Hid
    rw [hs.out]
    simpa using hown5
   clear hown5 hgrow5 hnn5 hcells2
   go_wp2
   go_roundw
   case rel=>exact⟨k+1,by omega,by go_num,R0.out,R2.out,R1.out⟩
   case measure=>simp [intOf];omega
  ·clear h
   have hkn:k=n:=by omega
   have hb':=Lib.hid hO
   have hr:Hid (u3≠ .slice none 0 0∧wr.ownsRow w.heap.size 85 4 u3 (jv rs).length ((jv rs).flatMap JH)) :=by
    unfold Hid jv
    rw [hl0.out,←hkn]
    exact⟨hnn,hown⟩
   clear hown hO hnn
   go_wp2
   go_ret
   exact⟨_,rfl,hr.out.1,hr.out.2,hb'.out⟩
def Je (rs:List jx) :Bool:=decide (rs.length≤40) &&rs.all qd&&decide ((jv rs).length≤400)
theorem Vg {rs:List jx} (h:¬rs.length≤40) :Je rs=false:=by simp [Je,h]
theorem VT {rs:List jx} {k:Nat} (hk:k<rs.length) (h:qd (rg rs k) =false) :Je rs=false:=by
 have:rs.all qd=false:=List.all_eq_false.2 ⟨rs[k],DR hk,by rw [Ku hk,h];simp⟩
 simp [Je,this]
theorem KW {rs:List jx} (h:rs.length≤40) (ha:rs.all qd=true) :Je rs=decide ((jv rs).length≤400) :=by simp [Je,h,ha]
theorem yl {rs:List jx} {k:Nat} (hk:k<rs.length) (h: (rs.take k).all qd=true) (h2:qd (rg rs k) =true) : (rs.take (k+1)).all qd=true:=by
 rw [DY hk,List.all_append,h,Ku hk]
 simp [h2]
set_option maxHeartbeats 1000000 in
set_option maxRecDepth 100000 in
theorem Gz (b1 o1:Nat) (A:Option Addr) (n c:Nat) (rs:List jx) (w:World) (hcell:w.cell? ⟨b1,o1,none⟩ =some (.slice A n c)) (hb1:b1<w.heap.size) (h:Rings w A n rs) (ht: (Qq rs:Int)≤1048577) :
  Calls Try.prog 22 #[.pointer (some ⟨b1,o1,none⟩)] w fun e w'=>e= .returned (.bool (Je rs))∧Over w w':=by
 have hl:=Lib.hid h.1
 have Ht:=Lib.hid ht
 have hn: (n:Int)≤1048577:=by have:=hl.out;unfold Qq at ht;omega
 clear ht
 by_cases h40: (n:Int)≤40
 ·go_enter Try.func22,Try.ntmps22
  go_wp2
  go_loopw [3] (fun i wr=>∃k:Nat,k≤n∧i= .int .i64 k∧Over w wr∧Hid ((rs.take k).all qd=true)) (fun i _=>n- (intOf i).toNat)
  case atStart=>exact⟨0,DQ _,rfl,Over.refl _,by simp [Hid]⟩
  case round=>
   rename_i wr
   obtain ⟨k,hk,rfl,hO,hall⟩ :=hrel
   have hbx:wr.cell? ⟨b1,o1,none⟩ =some (.slice A n c) := ((jD hO).1 _ _ hb1).trans hcell
   have hbz:b1<wr.heap.size:=DS hb1 hO.size
   by_cases hlt:k<n
   ·obtain ⟨b,o,Ak,ck,rfl,hbB,hcell2,hpts,hmax⟩ := (h.over hO).at_ hlt
    have hr: ((rg rs k).length:Int)≤1048577:=by have:=Ht.out;have:=kN rs (k:=k) (by rw [hl.out];exact hlt);omega
    have HO:=Lib.hid hO
    clear h hO hmax
    cases hv:qd (rg rs k)
    ·have hq:=Lib.hid (VT (by rw [hl.out];exact hlt) hv)
     go_wp2_with fail
     refine(uy _ _ Ak _ ck (rg rs k) _ hcell2 hpts hr).mono ?_
     rw [hv]
     rintro e w2 ⟨rfl,h2⟩
     go_wp2
     go_ret
     exact⟨by rw [hq.out];rfl,HO.out.trans h2⟩
    ·have hs:=Lib.hid (yl (by rw [hl.out];exact hlt) hall.out hv)
     clear hall
     go_wp2_with fail
     refine(uy _ _ Ak _ ck (rg rs k) _ hcell2 hpts hr).mono ?_
     rw [hv]
     rintro e w2 ⟨rfl,h2⟩
     go_wp2
     go_roundw
     case rel=>exact⟨k+1,by omega,by go_num,HO.out.trans h2,hs⟩
     case measure=>simp [intOf];omega
   ·have hkn:k=n:=by omega
    have ha:rs.all qd=true:=by have:=hall.out;rwa [Fk (by rw [hl.out];omega)] at this
    have hq:=Lib.hid (KW (by rw [hl.out];omega) ha)
    clear ha hall
    go_wp2_with fail
    refine(UT _ _ A n c rs _ hbx hbz (h.over hO) Ht.out).mono ?_
    rintro e w2 ⟨v,rfl,hv,hrow,h2⟩
    obtain ⟨g2,cap2,rfl,-,-⟩ :=U7 hrow hv
    clear hrow hv
    go_wp2
    go_ret
    exact⟨by rw [hq.out];simp;omega,hO.trans h2⟩
 ·have hq:=Lib.hid (Vg (rs:=rs) (by rw [hl.out];omega))
  clear h
  go_enter Try.func22,Try.ntmps22
  go_wp2
  go_ret
  exact⟨by rw [hq.out];rfl,DB⟩
set_option maxHeartbeats 1000000 in
set_option maxRecDepth 100000 in
theorem Kt (A:Option Addr) (n c:Nat) (rs:List jx) (w:World) (h:Rings w A n rs) (ht: (Qq rs:Int)≤1048577) :
  Calls Try.prog 14 #[kP A n c] w fun e w'=>e= .returned (.bool (Je rs))∧Over w w':=by
 have hl:=Lib.hid h.1
 have Ht:=Lib.hid ht
 have hn: (n:Int)≤1048577:=by have:=hl.out;unfold Qq at ht;omega
 clear ht
 by_cases h40: (n:Int)≤40
 ·go_enter Try.func14,Try.ntmps14
  go_wp2
  go_loopw [3,13] (fun s i wr=>∃k:Nat,k≤n∧i= .int .i64 k∧s= .int .i64 (JJ rs k).length∧Over w wr∧Hid ((rs.take k).all qd=true)) (fun _ i _=>n- (intOf i).toNat)
  case atStart=>exact⟨0,DQ _,rfl,rfl,Over.alloc _ _,by simp [Hid]⟩
  case round=>
   rename_i wr
   obtain ⟨k,hk,rfl,rfl,hO,hall⟩ :=hrel
   by_cases hlt:k<n
   ·obtain ⟨b,o,Ak,ck,rfl,hbB,hcell2,hpts,hmax⟩ := (h.over hO).at_ hlt
    have hr: ((rg rs k).length:Int)≤1048577:=by have:=Ht.out;have:=kN rs (k:=k) (by rw [hl.out];exact hlt);omega
    have hs2:Hid (JJ rs (k+1) =JJ rs k++Jf (rg rs k)) :=rfl
    have hsum: (JJ rs k).length+ (Jf (rg rs k)).length≤1048577:=by
     have h1:=vv rs (k+1)
     have h2:=Vk rs (show k+1≤n by omega)
     have h3:=Ht.out
     have h4:=hl.out
     unfold Qq at h3
     rw [h4] at h3
     simp only [JJ,DK] at h1
     omega
    have HO:=Lib.hid hO
    have HP:=Lib.hid hpts
    clear h hO hmax hpts
    cases hv:qd (rg rs k)
    ·have hq:=Lib.hid (VT (by rw [hl.out];exact hlt) hv)
     go_wp2_with fail
     refine(ww _ _ _ (rg rs k) _ (HP.out.over DB) hr).mono ?_
     rw [hv]
     rintro e w2 ⟨rfl,h2⟩
     have HO2:=Lib.hid (HO.out.trans ((Over.alloc _ _).trans h2))
     go_wp2
     go_ret
     exact⟨by rw [hq.out];rfl,HO2.out⟩
    ·have hs:=Lib.hid (yl (by rw [hl.out];exact hlt) hall.out hv)
     clear hall
     go_wp2_with fail
     refine(ww _ _ _ (rg rs k) _ (HP.out.over DB) hr).mono ?_
     rw [hv]
     rintro e w2 ⟨rfl,h2⟩
     obtain ⟨hc,hf⟩ :=jD h2
     go_wp2_with fail
     refine(kA _ _ _ (rg rs k) _ (HP.out.over ((Over.alloc _ _).trans h2)) hr).mono ?_
     rintro e w3 ⟨v,rfl,hrow,h3⟩
     obtain ⟨A2,c2,rfl,-,-⟩ :=uA hrow rfl
     have HO2:=Lib.hid (HO.out.trans ((Over.alloc _ _).trans (h2.trans h3)))
     clear hrow h2 h3 hc hf
     go_wp2
     go_roundw
     case rel=>exact⟨k+1,by omega,by go_num,by rw [hs2.out,DK];go_num,HO2.out,hs⟩
     case measure=>simp [intOf];omega
   ·have hkn:k=n:=by omega
    have ha:rs.all qd=true:=by have:=hall.out;rwa [Fk (by rw [hl.out];omega)] at this
    have hq:=Lib.hid (KW (by rw [hl.out];omega) ha)
    have he:Hid (JJ rs n=jv rs) :=by unfold Hid jv;rw [hl.out]
    clear ha hall h
    go_wp2
    go_ret
    exact⟨by rw [hq.out];simp;rw [he.out];omega,hO⟩
 ·have hq:=Lib.hid (Vg (rs:=rs) (by rw [hl.out];omega))
  clear h
  go_enter Try.func14,Try.ntmps14
  go_wp2
  go_ret
  exact⟨by rw [hq.out];rfl,DB⟩
theorem WR {P:Program} (w:World) {ops:Array Oper} {rest:List Oper} {o:Oper} {a:Act} {Q:Exit→Act→World→Prop} (hgd:o.guard=none) (s x:Operand) (t:TypeId)
  (ho:o.op= .call {callee:= .builtin .append,args:= #[s,x],argTypes:= #[t,t]})
  (base:Nat) (e:TypeId) (i:TypeInfo) (z:Value) (size bytes:Nat) (ht:P.underlying t=some (.slice e)) (hi:P.info? e=some i) (hz:i.zero=some z)
  (hsize:i.size=size) (hby:i.bytes=bytes) (hzs:z.cells.size=size) (hsz:0<size)
  (v:Value) (n:Nat) (xs:List Value) (hs:a.eval s=v) (hown:w.ownsRow base e size v n xs)
  (B2:Nat) (v2:Value) (m:Nat) (news:List Value) (hx:a.eval x=v2) (hrow:w.ownsRow B2 e size v2 m news) (h1:∀u∈news,u.oneCell'=true)
  (h63:n+m≤maxLen) (hbytes: (n+m) *bytes≤140737488355328) (hbase:base≤w.heap.size)
  (h:∀v' w',w'.ownsRow base e size v' (n+m) (xs++news)→w.grownBy w' v.ownBlock→wpList P ops Q rest (a.put o.dst v') w') :wpList P ops Q (o::rest) a w:=by
 by_cases hv:v2= .slice none 0 0
 ·subst hv
  have hm:m=0:=by
   rcases hrow.2 with⟨_,hm⟩ |⟨g,cap,cur,e,_⟩
   ·exact hm
   ·cases e
  subst hm
  have hnews:news= [] :=Fd (by simpa using hrow.1)
  subst hnews
  refine wpList_plain hgd fun K hK'=> ?_
  have hrun:=run_append_owned_none (P:=P) w base t o.type e i size ht hi v n xs hown
  unfold Oper.wp
  simp [execOp,ho,resolve,invoke,builtin,hs,hx,hrun,Result.andThen]
  exact hK' _ _ (by simpa using h v w (by simpa using hown) (World.grownBy.refl _ _))
 ·obtain ⟨g,cap,rfl,hl,hc⟩ :=U7 hrow hv
  exact wpList_append_own w hgd s x t ho base e i z size bytes ht hi hz hsize hby hzs hsz v n xs hs hown ⟨g,0,none⟩ m cap news hx hl hc h1 h63 hbytes hbase (fun v' w' h2 h3 _=>h v' w' h2 h3)
set_option maxHeartbeats 2000000 in
set_option maxRecDepth 100000 in
theorem VF (A:Option Addr) (n c:Nat) (rs:List jx) (w:World) (h:Rings w A n rs) (ht: (Qq rs:Int)≤1048577) :
  Calls Try.prog 16 #[kP A n c] w fun e w'=>∃v,e= .returned v∧w'.ownsRow w.heap.size 54 4 v (jv rs).length ((jv rs).flatMap JH)∧Over w w':=by
 obtain ⟨i0,hi,hz0,hz1,hz2⟩ :=va Xy
 have hl0:=Lib.hid h.1
 have Ht:=Lib.hid ht
 have hn: (n:Int)≤1048577:=by have:=hl0.out;unfold Qq at ht;omega
 clear ht
 go_enter Try.func16,Try.ntmps16
 go_wp2
 go_loopw [3,9] (fun s i wr=>∃k:Nat,k≤n∧i= .int .i64 k∧wr.ownsRow w.heap.size 54 4 s (JJ rs k).length ((JJ rs k).flatMap JH)∧Over w wr) (fun _ i _=>n- (intOf i).toNat)
 case atStart=>exact⟨0,DQ _,rfl,World.ownsRow_nil _ _ _ _,Over.alloc _ _⟩
 case round=>
  rename_i wr
  obtain ⟨k,hk,rfl,hown,hO⟩ :=hrel
  by_cases hlt:k<n
  ·obtain ⟨b,o,Ak,ck,rfl,hbB,hcell2,hpts,hmax⟩ := (h.over hO).at_ hlt
   have hr: ((rg rs k).length:Int)≤1048577:=by have:=Ht.out;have:=kN rs (k:=k) (by rw [hl0.out];exact hlt);omega
   have hs:Hid (JJ rs (k+1) =JJ rs k++Jf (rg rs k)) :=rfl
   have hsum: (JJ rs k).length+ (Jf (rg rs k)).length≤1048577:=by
    have h1:=vv rs (k+1)
    have h2:=Vk rs (show k+1≤n by omega)
    have h3:=Ht.out
    have h4:=hl0.out
    unfold Qq at h3
    rw [h4] at h3
    simp only [JJ,DK] at h1
    omega
   have Hown:=Lib.hid hown
   have HO:=Lib.hid hO
   have HP:=Lib.hid hpts
   clear h hown hO hmax hpts
   go_wp2_with fail
   refine(kA _ _ _ (rg rs k) _ (HP.out.over DB) hr).mono ?_
   rintro e w2 ⟨v,rfl,hrow,h2⟩
   have H2:=Lib.hid ((Over.alloc wr (.cells #[.slice Ak (rg rs k).length ck] 38)).trans h2)
   have Hrow:=Lib.hid hrow
   clear hrow h2
   go_wp2_with (at_builtin;refine WR _ rfl _ _ 48 rfl w.heap.size 54 i0 _ 4 32 Try.underlying48 hi hz0 hz1 hz2 rfl Dc _ _ _ rfl (vM Hown.out H2.out) _ _ _ _ rfl Hrow.out (Zb _) (by unfold maxLen;omega) Om (by have:=HO.out.size;have:=H2.out.size;omega) ?_)
   intro v' w5 hown5 hgrow5
   have R1:Hid (Over w w5) :=Vc HO.out Hown.out (DM _) H2.out hgrow5
   have R2:Hid (w5.ownsRow w.heap.size 54 4 v' (JJ rs (k+1)).length ((JJ rs (k+1)).flatMap JH)) :=by
    unfold Hid
    rw [hs.out]
    simpa using hown5
   clear hown5 hgrow5
   go_wp2
   go_roundw
   case rel=>exact⟨k+1,by omega,by go_num,R2.out,R1.out⟩
   case measure=>simp [intOf];omega
  ·clear h
   have hkn:k=n:=by omega
   have hb':=Lib.hid hO
   have hr:Hid (wr.ownsRow w.heap.size 54 4 u3 (jv rs).length ((jv rs).flatMap JH)) :=by
    unfold Hid jv
    rw [hl0.out,←hkn]
    exact hown
   clear hown hO
   go_wp2
   go_ret
   exact⟨_,rfl,hr.out,hb'.out⟩
end Go.Proofs.Ytpncbbcmoiiipaa
