import Derived.Test.YtkagkgjjfdkoaaaGreatMDat
import Derived.Test.YtkagkgjjfdkoaaaGreatMLines
import Derived.Test.YtkagkgjjfdkoaaaGreatMBounds
import Derived.Test.YtkagkgjjfdkoaaaGreatMCorner
set_option linter.unusedVariables false
set_option linter.unusedSimpArgs false
namespace Go.Proofs.YtkagkgjjfdkoaaaGreat
open Go Go.RowKit
set_option maxRecDepth 100000
set_option maxHeartbeats 4000000
def EU (ax ay bx b_y px_ py_:Int) :Bool:= (Kd ax ay bx b_y px_ py_==0) &&decide (min ax bx≤px_) &&decide (px_≤max ax bx) &&decide (min ay b_y≤py_) &&decide (py_≤max ay b_y)
abbrev Ym (x:Int) :Prop:= -1048576≤x∧x≤1048576
theorem Ox (ax ay bx b_y px_ py_:Int) (w:World) (ha:Ym ax) (ha':Ym ay) (hb:Ym bx) (hb':Ym b_y) (hp:Ym px_) (hp':Ym py_) :
  Calls Tryz.prog 112 #[W2 ax ay,W2 bx b_y,W2 px_ py_] w fun e w'=>e= .returned (.bool (EU ax ay bx b_y px_ py_))∧Over w w':=by
 refine jU (m:=52) (Tryz.func112) J J (lb J) ?_;refine S3 ?_;refine aX (fun b1=> ?_);refine N1 ?_;refine aX (fun b2=> ?_);refine N1 ?_;refine aX (fun b3=> ?_);refine N7 ?_;refine a9 (jH kC J J (fun w h=>Xr _ _ _ _ _ _ w ha.1 ha.2 ha'.1 ha'.2 hb.1 hb.2 hb'.1 hb'.2 hp.1 hp.2 hp'.1 hp'.2)) ?_;refine S2 ?_;refine cV 12 (fun g1=> ?_) (fun g1=> ?_)
 ·refine S9 ?_;refine o9 (jag J J J) ?_;refine S8 ?_;refine cV 22 (fun g2=> ?_) (fun g2=> ?_)
  ·refine S13 ?_;refine o9 (jaf J J J) ?_;refine S4 ?_;refine cV 32 (fun g3=> ?_) (fun g3=> ?_)
   ·refine S9 ?_;refine o9 (jag J J J) ?_;refine S8 ?_;refine cV 42 (fun g4=> ?_) (fun g4=> ?_)
    ·refine S13 ?_;refine o9 (jaf J J J) ?_;refine S6 ?_;refine jL J (.tmp J) ?_
     intro w' hs
     exact⟨QJ (by symm;simp [EU];omega),hs.fin⟩
    ·refine S12 ?_;refine jL J (.tmp J) ?_
     intro w' hs
     exact⟨QJ (by symm;simp [EU];omega),hs.fin⟩
   ·refine S22 ?_;refine jL J (.tmp J) ?_
    intro w' hs
    exact⟨QJ (by symm;simp [EU];omega),hs.fin⟩
  ·refine S32 ?_;refine jL J (.tmp J) ?_
   intro w' hs
   exact⟨QJ (by symm;simp [EU];omega),hs.fin⟩
 ·refine S42 ?_;refine jL J (.tmp J) ?_
  intro w' hs
  exact⟨QJ (by symm;simp [EU];omega),hs.fin⟩
theorem Sb (ax ay bx b_y px_ py_:Int) (w:World) :
  Calls Tryz.prog 188 #[W2 ax ay,W2 bx b_y,W2 px_ py_] w fun e w'=>e= .returned (.bool (decide (min ax bx≤px_) &&decide (px_≤max ax bx) &&decide (min ay b_y≤py_) &&decide (py_≤max ay b_y)))∧Over w w':=by
 refine jU (m:=45) (Tryz.func188) J J (lb J) ?_;refine S3 ?_;refine aX (fun b1=> ?_);refine N1 ?_;refine aX (fun b2=> ?_);refine N1 ?_;refine aX (fun b3=> ?_);refine N4 ?_;refine Jw 39 ?_;refine dK 0 ?_;refine dK 1 ?_;refine dK 2 ?_;refine dK 3 ?_;refine dZ 4 J (jH vd J J (fun w h=>Calls.still (Ve _ _ w))) ?_;refine dK 5 ?_;refine dK 6 ?_;refine dK 7 ?_;refine dK 8 ?_;refine cV 15 (fun g1=> ?_) (fun g1=> ?_)
 ·refine eK 9 ?_;refine eK 10 ?_;refine eK 11 ?_;refine eK 12 ?_;refine eK 13 ?_;refine eK 14 ?_;refine eZ 15 J (jH vc J J (fun w h=>Calls.still (Vd _ _ w))) ?_;refine eK 16 ?_;refine dK 17 ?_;refine dK 18 ?_;refine cV 25 (fun g2=> ?_) (fun g2=> ?_)
  ·refine eK 19 ?_;refine eK 20 ?_;refine eK 21 ?_;refine eK 22 ?_;refine eZ 23 J (jH vd J J (fun w h=>Calls.still (Ve _ _ w))) ?_;refine eK 24 ?_;refine eK 25 ?_;refine eK 26 ?_;refine dK 27 ?_;refine dK 28 ?_;refine cV 35 (fun g3=> ?_) (fun g3=> ?_)
   ·refine eK 29 ?_;refine eK 30 ?_;refine eK 31 ?_;refine eK 32 ?_;refine eK 33 ?_;refine eK 34 ?_;refine eZ 35 J (jH vc J J (fun w h=>Calls.still (Vd _ _ w))) ?_;refine eK 36 ?_;refine dK 37 ?_;refine dK 38 ?_;refine Jj (by kernel_rfl) ?_;refine S2 ?_;refine jL J (.tmp J) ?_
    intro w' hs
    exact⟨QJ (by symm;simp;omega),hs.fin⟩
   ·refine fK 29 ?_;refine fK 30 ?_;refine fK 31 ?_;refine fK 32 ?_;refine fK 33 ?_;refine fK 34 ?_;refine fK 35 ?_;refine fK 36 ?_;refine dK 37 ?_;refine dK 38 ?_;refine Jj (by kernel_rfl) ?_;refine S2 ?_;refine jL J (.tmp J) ?_
    intro w' hs
    exact⟨QJ (by symm;simp;omega),hs.fin⟩
  ·refine fK 19 ?_;refine fK 20 ?_;refine fK 21 ?_;refine fK 22 ?_;refine fK 23 ?_;refine fK 24 ?_;refine fK 25 ?_;refine fK 26 ?_;refine dK 27 ?_;refine dK 28 ?_;refine fK 29 ?_;refine fK 30 ?_;refine fK 31 ?_;refine fK 32 ?_;refine fK 33 ?_;refine fK 34 ?_;refine fK 35 ?_;refine fK 36 ?_;refine dK 37 ?_;refine dK 38 ?_;refine Jj (by kernel_rfl) ?_;refine S2 ?_;refine jL J (.tmp J) ?_
   intro w' hs
   exact⟨QJ (by symm;simp;omega),hs.fin⟩
 ·refine fK 9 ?_;refine fK 10 ?_;refine fK 11 ?_;refine fK 12 ?_;refine fK 13 ?_;refine fK 14 ?_;refine fK 15 ?_;refine fK 16 ?_;refine dK 17 ?_;refine dK 18 ?_;refine fK 19 ?_;refine fK 20 ?_;refine fK 21 ?_;refine fK 22 ?_;refine fK 23 ?_;refine fK 24 ?_;refine fK 25 ?_;refine fK 26 ?_;refine dK 27 ?_;refine dK 28 ?_;refine fK 29 ?_;refine fK 30 ?_;refine fK 31 ?_;refine fK 32 ?_;refine fK 33 ?_;refine fK 34 ?_;refine fK 35 ?_;refine fK 36 ?_;refine dK 37 ?_;refine dK 38 ?_;refine Jj (by kernel_rfl) ?_;refine S2 ?_;refine jL J (.tmp J) ?_
  intro w' hs
  exact⟨QJ (by symm;simp;omega),hs.fin⟩
theorem Pe (ax ay bx b_y px_ py_:Int) (w:World) (ha:Ym ax) (ha':Ym ay) (hb:Ym bx) (hb':Ym b_y) (hp:Ym px_) (hp':Ym py_) :
  Calls Tryz.prog 168 #[W2 ax ay,W2 bx b_y,W2 px_ py_] w fun e w'=>e= .returned (.bool (EU ax ay bx b_y px_ py_))∧Over w w':=by
 refine jU (m:=18) (Tryz.func168) J J (lb J) ?_;refine S3 ?_;refine aX (fun b1=> ?_);refine N1 ?_;refine aX (fun b2=> ?_);refine N1 ?_;refine aX (fun b3=> ?_);refine N7 ?_;refine a9 (jH Qi J J (fun w h=>Ub _ _ _ _ _ _ w ha.1 ha.2 ha'.1 ha'.2 hb.1 hb.2 hb'.1 hb'.2 hp.1 hp.2 hp'.1 hp'.2)) ?_;refine S2 ?_;refine cV 12 (fun g1=> ?_) (fun g1=> ?_)
 ·refine S7 ?_;refine o9 (jH L0 J J (fun w h=>Sb _ _ _ _ _ _ w)) ?_;refine S4 ?_;refine jL J (.tmp J) ?_
  intro w' hs
  exact⟨QJ (by simp [EU,g1,Bool.and_assoc]),hs.fin⟩
 ·refine S8 ?_;refine jL J (.tmp J) ?_
  intro w' hs
  exact⟨QJ (by symm;simp [EU];omega),hs.fin⟩
end Go.Proofs.YtkagkgjjfdkoaaaGreat
namespace Go.Proofs.YtkagkgjjfdkoaaaGreat
open Go Go.RowKit
theorem F4: (Tryz.prog.info? 118).map (fun i=> (i.zero,i.size,i.bytes)) =some (some (.agg #[.int .i64 0, .int .i64 0, .int .i64 0, .int .i64 0]),4,32) :=by kernel_rfl
theorem R3 {w:World} {b:Nat} {x y z u:Value} {t:TypeId} (h:w.heap[b]? =some (.cells (Value.agg #[x,y,z,u]).cells t (0,0))) :
  w.cell? ⟨b,0,none⟩ =some x∧w.cell? ⟨b,1,none⟩ =some y∧w.cell? ⟨b,2,none⟩ =some z∧w.cell? ⟨b,3,none⟩ =some u:=
 ⟨(cell_of_row w b 0 _ t (0,0) h).trans rfl,(cell_of_row w b 1 _ t (0,0) h).trans rfl,(cell_of_row w b 2 _ t (0,0) h).trans rfl,(cell_of_row w b 3 _ t (0,0) h).trans rfl⟩
theorem Bo (w:World) (T s:Nat) : (w.alloc (.cells #[] T)).ownsRow w.heap.size T s (.slice (some ⟨w.heap.size,0,none⟩) 0 0) 0 [] :=
 ⟨by simp, .inr ⟨w.heap.size,0,#[],rfl,jeD _,heap_alloc_new w _,jeD _,by unfold maxLen;omega,by simp,by simp⟩⟩
set_option maxHeartbeats 2000000 in
set_option maxRecDepth 100000 in
theorem yv (b1 o1:Nat) (A:Option Addr) (n c:Nat) (xs:List (Int×Int)) (w:World) (hcell:w.cell? ⟨b1,o1,none⟩ =some (.slice A n c)) (hb1:b1<w.heap.size) (h:Pts w A n xs) (hn: (n:Int)≤1048577) :
  Calls Tryz.prog 93 #[.pointer (some ⟨b1,o1,none⟩)] w fun e w'=>∃v,e= .returned v∧v≠ .slice none 0 0∧w'.ownsRow w.heap.size 118 4 v (J0 xs).length ((J0 xs).flatMap jZ)∧Over w w':=by
 obtain ⟨i0,hi,hz0,hz1,hz2⟩ :=WW F4
 go_enter Tryz.func93,Tryz.ntmps93
 go_wp2
 go_loopw [3,5] (fun s i wr=>∃k:Nat,k≤n∧i= .int .i64 k∧s≠ .slice none 0 0∧wr.ownsRow w.heap.size 118 4 s (qG xs k).length ((qG xs k).flatMap jZ)∧Over w wr) (fun _ i _=>n- (intOf i).toNat)
 case atStart=>exact⟨0,jeE _,rfl,by simp,Bo _ _ _,Over.alloc _ _⟩
 case round=>
  rename_i wr
  have hl0:=h.1
  obtain ⟨k,hk,rfl,hnn,hown,hO⟩ :=hrel
  by_cases hlt:k<n
  ·have hl:=h.1
   obtain ⟨b,o,rfl,hbB,hc1,hc2⟩ := (h.over hO).at_ hlt
   obtain ⟨b',o',e,hbB',hc1',hc2'⟩ := (h.over hO).at_ (k:=nx xs k) (by have:=LX (xs:=xs) k (by omega);omega)
   injection e with e
   injection e with e1 e2 _
   subst e1 e2
   have hnx: ((k:Int) +1).tmod (n:Int) = ((nx xs k:Nat) :Int) :=by rw [jgl (by omega)];exact Sr hl k
   have hnl:=LX k (show 0<xs.length by omega)
   have hbx:wr.cell? ⟨b1,o1,none⟩ =some (.slice (some ⟨b,o,none⟩) n c) := ((Ji hO).1 _ _ hb1).trans hcell
   have hbz:b1<wr.heap.size:=jeR hb1 hO.size
   rw [hl] at hnl
   have hn0:¬n=0:=by omega
   have Hown:=Lib.hid hown
   have Hnn:=Lib.hid hnn
   have HO:=Lib.hid hO
   have hs:=Lib.hid (Ke xs k)
   generalize px xs k=x at hc1 hs
   generalize py xs k=y at hc2 hs
   generalize px xs (nx xs k) =x' at hc1' hs
   generalize py xs (nx xs k) =y' at hc2' hs
   clear h hl hown hO hnn
   go_wp2
   refine QZ (B:=ob _) (Over.refl _) (by kernel_rfl) (by simp only [jfu,jeP,je6,Nat.reduceAdd];rfl) (fun hBW=> ?_);refine w9 0 (hy:=fun wx hS=>by(obtain ⟨hc,hf⟩ :=Ji hS;clear hS;go_simp; (try go_bits);exact⟨rfl,Over.refl _⟩)) (h:= ?_)
   simp only [Act.put,xd7,ya,yb]
   refine w9 1 (hy:=fun wx hS=>by(obtain ⟨hc,hf⟩ :=Ji hS;clear hS;go_simp; (try go_bits);exact⟨rfl,Over.refl _⟩)) (h:= ?_)
   simp only [Act.put,xd7,ya,yb]
   refine w9 2 (hy:=fun wx hS=>by(obtain ⟨hc,hf⟩ :=Ji hS;clear hS;go_simp; (try go_bits);exact⟨rfl,Over.refl _⟩)) (h:= ?_)
   simp only [Act.put,xd7,ya,yb]
   refine w9 3 (hy:=fun wx hS=>by(obtain ⟨hc,hf⟩ :=Ji hS;clear hS;go_simp; (try go_bits);exact⟨rfl,Over.refl _⟩)) (h:= ?_)
   simp only [Act.put,xd7,ya,yb]
   refine w9 4 (hy:=fun wx hS=>by(obtain ⟨hc,hf⟩ :=Ji hS;clear hS;go_simp; (try go_bits);exact⟨rfl,Over.refl _⟩)) (h:= ?_)
   simp only [Act.put,xd7,ya,yb]
   refine w9 5 (hy:=fun wx hS=>by(obtain ⟨hc,hf⟩ :=Ji hS;clear hS;go_simp; (try go_bits);exact⟨rfl,Over.refl _⟩)) (h:= ?_)
   simp only [Act.put,xd7,ya,yb]
   refine w9 6 (hy:=fun wx hS=>by(obtain ⟨hc,hf⟩ :=Ji hS;clear hS;go_simp; (try go_bits);exact⟨rfl,Over.refl _⟩)) (h:= ?_)
   simp only [Act.put,xd7,ya,yb]
   refine w9 7 (hy:=fun wx hS=>by(obtain ⟨hc,hf⟩ :=Ji hS;clear hS;go_simp; (try go_bits);exact⟨rfl,Over.refl _⟩)) (h:= ?_)
   simp only [Act.put,xd7,ya,yb]
   refine w9 8 (hy:=fun wx hS=>by(obtain ⟨hc,hf⟩ :=Ji hS;clear hS;go_simp; (try go_bits);exact⟨rfl,Over.refl _⟩)) (h:= ?_)
   simp only [Act.put,xd7,ya,yb]
   refine w9 9 (hy:=fun wx hS=>by(obtain ⟨hc,hf⟩ :=Ji hS;clear hS;go_simp; (try go_bits);exact⟨rfl,Over.refl _⟩)) (h:= ?_)
   simp only [Act.put,xd7,ya,yb]
   refine w9 10 (hy:=fun wx hS=>by(obtain ⟨hc,hf⟩ :=Ji hS;clear hS;go_simp; (try go_bits);exact⟨rfl,Over.refl _⟩)) (h:= ?_)
   simp only [Act.put,xd7,ya,yb]
   refine w9 11 (hy:=fun wx hS=>by(obtain ⟨hc,hf⟩ :=Ji hS;clear hS;go_simp; (try go_bits);exact⟨rfl,Over.refl _⟩)) (h:= ?_)
   simp only [Act.put,xd7,ya,yb]
   refine w9 12 (hy:=fun wx hS=>by(obtain ⟨hc,hf⟩ :=Ji hS;clear hS;go_simp; (try go_bits);exact⟨rfl,Over.refl _⟩)) (h:= ?_)
   simp only [Act.put,xd7,ya,yb]
   refine w9 13 (hy:=fun wx hS=>by(obtain ⟨hc,hf⟩ :=Ji hS;clear hS;go_simp; (try go_bits);exact⟨rfl,Over.refl _⟩)) (h:= ?_)
   simp only [Act.put,xd7,ya,yb]
   refine w9 14 (hy:=fun wx hS=>by(obtain ⟨hc,hf⟩ :=Ji hS;clear hS;go_simp; (try go_bits);exact⟨rfl,Over.refl _⟩)) (h:= ?_)
   simp only [Act.put,xd7,ya,yb]
   refine w9 15 (hy:=fun wx hS=>by(obtain ⟨hc,hf⟩ :=Ji hS;clear hS;go_simp; (try go_bits);exact⟨rfl,Over.refl _⟩)) (h:= ?_)
   simp only [Act.put,xd7,ya,yb]
   refine w9 16 (hy:=fun wx hS=>by(obtain ⟨hc,hf⟩ :=Ji hS;clear hS;go_simp; (try go_bits);exact⟨rfl,Over.refl _⟩)) (h:= ?_)
   simp only [Act.put,xd7,ya,yb]
   refine w9 17 (hy:=fun wx hS=>by(obtain ⟨hc,hf⟩ :=Ji hS;clear hS;go_simp; (try go_bits);exact⟨rfl,Over.refl _⟩)) (h:= ?_)
   simp only [Act.put,xd7,ya,yb]
   refine G8 (i:=18) (k:=19) (by assumption) (by simp only [xa7,xb7,xc7];rfl) (by simp only [xa7,xb7,xc7];rfl) (by rfl) (by rfl) (by rfl) (by rfl) (by rfl) (by rfl) (fun _=>by(go_simp;rfl)) (by kernel_rfl) (by kernel_rfl) (fun _=>by rfl) (fun _=>by rfl) (by kernel_rfl) (by rfl) (by simp [Value.oneCell']) ?_
   intro w2 q1 ho hq1 hl1 hh1 hBx
   replace hBW:=hBx;clear hBx
   simp only [Act.put,xd7,ya,yb]
   obtain ⟨k1,k2,k3,k4⟩ :=R3 hh1
   refine QY (by kernel_rfl) (fun w3 h3=> ?_) _
   try clear hBW
   have H3:=Lib.hid (ho.trans h3)
   have l1:= ((Ji h3).1 q1 0 hl1).trans k1
   have l2:= ((Ji h3).1 q1 1 hl1).trans k2
   have l3:= ((Ji h3).1 q1 2 hl1).trans k3
   have l4:= ((Ji h3).1 q1 3 hl1).trans k4
   have hl3:q1<w3.heap.size:=jeR hl1 h3.size
   have hw3:=H3.out.size
   clear k1 k2 k3 k4 ho h3 hh1
   have key: (x=x'∧y=y')∨(¬x=x')∨(x=x'∧¬y=y') :=by omega
   rcases key with⟨rfl,rfl⟩ | hne |⟨rfl,hne⟩
   ·replace hs:Hid (qG xs (k+1) =qG xs k) :=by have:=hs.out;rw [if_pos ⟨rfl,rfl⟩] at this;exact this
    go_wp2
    go_roundw
    case rel=>exact⟨k+1,by omega,by go_num,Hnn.out,by rw [hs.out];exact UY Hown.out H3.out,HO.out.trans H3.out⟩
    case measure=>simp [intOf];omega
   all_goals
    replace hs:=Lib.hid (hs.out.trans (if_neg (by omega)))
    have hlen:=Ki xs k
    go_wp2_with (at_builtin;refine wpList_append_own _ rfl _ _ 77 rfl w.heap.size 118 i0 _ 4 32 Tryz.underlying77 hi hz0 hz1 hz2 rfl (by decide) _ _ _ rfl ((UY Hown.out H3.out).alloc _) ⟨w3.heap.size,0,none⟩ 1 1 (jZ ⟨x,y,_,y'⟩) rfl rfl (Bn rfl) (by simp [jZ,Value.oneCell']) (by unfold maxLen;omega) (by omega) (by have:=HO.out.size;have:=H3.out.size;simp at*;omega) ?_)
    intro v' w5 hown5 hgrow5 hnn5
    have R0:Hid (v'≠ .slice none 0 0) :=hnn5
    have R1:Hid (Over w w5) :=yB HO.out Hown.out (jeD _) (Over.alloc_ H3.out _) hgrow5
    have R2:Hid (w5.ownsRow w.heap.size 118 4 v' (qG xs (k+1)).length ((qG xs (k+1)).flatMap jZ)) :=by
     unfold Hid
     rw [hs.out]
     simpa using hown5
    clear hown5 hgrow5 hnn5
    go_wp2
    go_roundw
    case rel=>exact⟨k+1,by omega,by go_num,R0.out,R2.out,R1.out⟩
    case measure=>simp [intOf];omega
  ·clear h
   have hkn:k=n:=by omega
   have hb':=Lib.hid hO
   have hr:Hid (u3≠ .slice none 0 0∧wr.ownsRow w.heap.size 118 4 u3 (J0 xs).length ((J0 xs).flatMap jZ)) :=by
    unfold Hid J0
    rw [hl0,←hkn]
    exact⟨hnn,hown⟩
   clear hown hO hnn
   go_wp2
   go_ret
   exact⟨_,rfl,hr.out.1,hr.out.2,hb'.out⟩
def Qg (rs:List jS) :Nat→List Leg
 | 0=> []
 | k+1=>Qg rs k++J0 (rg rs k)
theorem RU (xs:jS) : (J0 xs).length≤xs.length:=Ki xs _
theorem XD (rs:List jS) :∀k,(Qg rs k).length≤qF rs k
 | 0=>by simp [Qg]
 | k+1=>by
  have:=XD rs k
  have:=RU (rg rs k)
  simp only [Qg,qF,jeC]
  omega
def Jm (rs:List jS) :List Leg:=Qg rs rs.length
theorem Ri {w:World} {B T s n:Nat} {v:Value} {xs:List Value} (h:w.ownsRow B T s v n xs) (hv:v≠ .slice none 0 0) :
  ∃g cap,v= .slice (some ⟨g,0,none⟩) n cap∧xs.length=n*s∧∀j u,xs[j]? =some u→w.cell? ((⟨g,0,none⟩ :Addr).add j) =some u:=by
 rcases h.2 with⟨e,_⟩ |⟨g,cap,cur,e,hb,hg,hcap,_⟩
 ·exact absurd e hv
 ·exact⟨g,cap,e,h.1,fun j u hj=>h.cells (by rw [e];rfl) j u hj⟩
theorem LR:∀ls:List Leg,∀u∈ls.flatMap jZ,u.oneCell'=true:=by
 intro ls u hu
 obtain ⟨l,_,hl⟩ :=jgh.1 hu
 simp [jZ] at hl
 rcases hl with rfl | rfl | rfl | rfl<;>rfl
set_option maxHeartbeats 2000000 in
set_option maxRecDepth 100000 in
theorem LN (b1 o1:Nat) (A:Option Addr) (n c:Nat) (rs:List jS) (w:World) (hcell:w.cell? ⟨b1,o1,none⟩ =some (.slice A n c)) (hb1:b1<w.heap.size) (h:Rings w A n rs) (ht: (total rs:Int)≤1048577) :
  Calls Tryz.prog 58 #[.pointer (some ⟨b1,o1,none⟩)] w fun e w'=>∃v,e= .returned v∧v≠ .slice none 0 0∧w'.ownsRow w.heap.size 118 4 v (Jm rs).length ((Jm rs).flatMap jZ)∧Over w w':=by
 obtain ⟨i0,hi,hz0,hz1,hz2⟩ :=WW F4
 have hl0:=Lib.hid h.1
 have Ht:=Lib.hid ht
 have hn: (n:Int)≤1048577:=by have:=hl0.out;unfold total at ht;omega
 clear ht
 go_enter Tryz.func58,Tryz.ntmps58
 go_wp2
 go_loopw [3,4] (fun s i wr=>∃k:Nat,k≤n∧i= .int .i64 k∧s≠ .slice none 0 0∧wr.ownsRow w.heap.size 118 4 s (Qg rs k).length ((Qg rs k).flatMap jZ)∧Over w wr) (fun _ i _=>n- (intOf i).toNat)
 case atStart=>exact⟨0,jeE _,rfl,by simp,Bo _ _ _,Over.alloc _ _⟩
 case round=>
  rename_i wr
  obtain ⟨k,hk,rfl,hnn,hown,hO⟩ :=hrel
  have hbx:wr.cell? ⟨b1,o1,none⟩ =some (.slice A n c) := ((Ji hO).1 _ _ hb1).trans hcell
  have hbz:b1<wr.heap.size:=jeR hb1 hO.size
  by_cases hlt:k<n
  ·obtain ⟨b,o,Ak,ck,rfl,hbB,hcell2,hpts,hmax⟩ := (h.over hO).at_ hlt
   have hr: ((rg rs k).length:Int)≤1048577:=by have:=Ht.out;have:=Vn rs (k:=k) (by rw [hl0.out];exact hlt);omega
   have hs:Hid (Qg rs (k+1) =Qg rs k++J0 (rg rs k)) :=rfl
   have hsum: (Qg rs k).length+ (J0 (rg rs k)).length≤1048577:=by
    have h1:=XD rs (k+1)
    have h2:=WM rs (show k+1≤n by omega)
    have h3:=Ht.out
    have h4:=hl0.out
    unfold total at h3
    rw [h4] at h3
    simp only [Qg,jeC] at h1
    omega
   have Hown:=Lib.hid hown
   have Hnn:=Lib.hid hnn
   have HO:=Lib.hid hO
   clear h hown hO hnn hmax
   go_wp2_with fail
   refine(yv _ _ Ak _ ck (rg rs k) _ hcell2 hbB hpts hr).mono ?_
   rintro e w2 ⟨v,rfl,hv,hrow,h2⟩
   obtain ⟨g2,cap2,rfl,hlen2,hcells2⟩ :=Ri hrow hv
   have H2:=Lib.hid h2
   clear hrow hv h2 hpts
   go_wp2_with (at_builtin;refine wpList_append_own _ rfl _ _ 77 rfl w.heap.size 118 i0 _ 4 32 Tryz.underlying77 hi hz0 hz1 hz2 rfl (by decide) _ _ _ rfl (UY Hown.out H2.out) ⟨g2,0,none⟩ (J0 (rg rs k)).length cap2 ((J0 (rg rs k)).flatMap jZ) rfl hlen2 hcells2 (LR _) (by unfold maxLen;omega) (by omega) (by have:=HO.out.size;have:=H2.out.size;omega) ?_)
   intro v' w5 hown5 hgrow5 hnn5
   have R0:Hid (v'≠ .slice none 0 0) :=fun e=>Hnn.out (hnn5.1 e).1
   have R1:Hid (Over w w5) :=yB HO.out Hown.out (jeD _) H2.out hgrow5
   have R2:Hid (w5.ownsRow w.heap.size 118 4 v' (Qg rs (k+1)).length ((Qg rs (k+1)).flatMap jZ)) :=by
    unfold Hid
    rw [hs.out]
    simpa using hown5
   clear hown5 hgrow5 hnn5 hcells2
   go_wp2
   go_roundw
   case rel=>exact⟨k+1,by omega,by go_num,R0.out,R2.out,R1.out⟩
   case measure=>simp [intOf];omega
  ·clear h
   have hkn:k=n:=by omega
   have hb':=Lib.hid hO
   have hr:Hid (u3≠ .slice none 0 0∧wr.ownsRow w.heap.size 118 4 u3 (Jm rs).length ((Jm rs).flatMap jZ)) :=by
    unfold Hid Jm
    rw [hl0.out,←hkn]
    exact⟨hnn,hown⟩
   clear hown hO hnn
   go_wp2
   go_ret
   exact⟨_,rfl,hr.out.1,hr.out.2,hb'.out⟩
def JO (rs:List jS) :Bool:=decide (rs.length≤40) &&rs.all kH&&decide ((Jm rs).length≤400)
theorem x8 {rs:List jS} (h:¬rs.length≤40) :JO rs=false:=by simp [JO,h]
theorem GR {rs:List jS} {k:Nat} (hk:k<rs.length) (h:kH (rg rs k) =false) :JO rs=false:=by
 have:rs.all kH=false:=List.all_eq_false.2 ⟨rs[k],jeW hk,by rw [wl hk,h];simp⟩
 simp [JO,this]
theorem ZN {rs:List jS} (h:rs.length≤40) (ha:rs.all kH=true) :JO rs=decide ((Jm rs).length≤400) :=by simp [JO,h,ha]
theorem Ru {rs:List jS} {k:Nat} (hk:k<rs.length) (h: (rs.take k).all kH=true) (h2:kH (rg rs k) =true) : (rs.take (k+1)).all kH=true:=by
 rw [jeS hk,List.all_append,h,wl hk]
 simp [h2]
theorem Xx {P:Program} (w:World) {ops:Array Oper} {rest:List Oper} {o:Oper} {a:Act} {Q:Exit→Act→World→Prop} (hgd:o.guard=none) (s x:Operand) (t:TypeId)
  (ho:o.op= .call {callee:= .builtin .append,args:= #[s,x],argTypes:= #[t,t]})
  (base:Nat) (e:TypeId) (i:TypeInfo) (z:Value) (size bytes:Nat) (ht:P.underlying t=some (.slice e)) (hi:P.info? e=some i) (hz:i.zero=some z)
  (hsize:i.size=size) (hby:i.bytes=bytes) (hzs:z.cells.size=size) (hsz:0<size)
  (v:Value) (n:Nat) (xs:List Value) (hs:a.eval s=v) (hown:w.ownsRow base e size v n xs)
  (B2:Nat) (v2:Value) (m:Nat) (news:List Value) (hx:a.eval x=v2) (hrow:w.ownsRow B2 e size v2 m news) (h1:∀u∈news,u.oneCell'=true)
  (h63:n+m≤maxLen) (hbytes: (n+m) *bytes≤140737488355328) (hbase:base≤w.heap.size)
  (h:∀v' w',w'.ownsRow base e size v' (n+m) (xs++news)→w.grownBy w' v.ownBlock→wpList P ops Q rest (a.put o.dst v') w') :wpList P ops Q (o::rest) a w:=by
 by_cases hv:v2= .slice none 0 0
 ·subst hv
  have hm:m=0:=by
   rcases hrow.2 with⟨_,hm⟩ |⟨g,cap,cur,e,_⟩
   ·exact hm
   ·cases e
  subst hm
  have hnews:news= [] :=je9 (by simpa using hrow.1)
  subst hnews
  refine wpList_plain hgd fun K hK'=> ?_
  have hrun:=run_append_owned_none (P:=P) w base t o.type e i size ht hi v n xs hown
  unfold Oper.wp
  simp [execOp,ho,resolve,invoke,builtin,hs,hx,hrun,Result.andThen]
  exact hK' _ _ (by simpa using h v w (by simpa using hown) (World.grownBy.refl _ _))
 ·obtain ⟨g,cap,rfl,hl,hc⟩ :=Ri hrow hv
  exact wpList_append_own w hgd s x t ho base e i z size bytes ht hi hz hsize hby hzs hsz v n xs hs hown ⟨g,0,none⟩ m cap news hx hl hc h1 h63 hbytes hbase (fun v' w' h2 h3 _=>h v' w' h2 h3)
set_option maxHeartbeats 2000000 in
set_option maxRecDepth 100000 in
theorem Va (A:Option Addr) (n c:Nat) (rs:List jS) (w:World) (h:Rings w A n rs) (ht: (total rs:Int)≤1048577) :
  Calls Tryz.prog 42 #[Ju A n c] w fun e w'=>∃v,e= .returned v∧w'.ownsRow w.heap.size 56 4 v (Jm rs).length ((Jm rs).flatMap jZ)∧Over w w':=by
 obtain ⟨i0,hi,hz0,hz1,hz2⟩ :=WW TE
 have hl0:=Lib.hid h.1
 have Ht:=Lib.hid ht
 have hn: (n:Int)≤1048577:=by have:=hl0.out;unfold total at ht;omega
 clear ht
 go_enter Tryz.func42,Tryz.ntmps42
 go_wp2
 go_loopw [3,9] (fun s i wr=>∃k:Nat,k≤n∧i= .int .i64 k∧wr.ownsRow w.heap.size 56 4 s (Qg rs k).length ((Qg rs k).flatMap jZ)∧Over w wr) (fun _ i _=>n- (intOf i).toNat)
 case atStart=>exact⟨0,jeE _,rfl,World.ownsRow_nil _ _ _ _,Over.alloc _ _⟩
 case round=>
  rename_i wr
  obtain ⟨k,hk,rfl,hown,hO⟩ :=hrel
  by_cases hlt:k<n
  ·obtain ⟨b,o,Ak,ck,rfl,hbB,hcell2,hpts,hmax⟩ := (h.over hO).at_ hlt
   have hr: ((rg rs k).length:Int)≤1048577:=by have:=Ht.out;have:=Vn rs (k:=k) (by rw [hl0.out];exact hlt);omega
   have hs:Hid (Qg rs (k+1) =Qg rs k++J0 (rg rs k)) :=rfl
   have hsum: (Qg rs k).length+ (J0 (rg rs k)).length≤1048577:=by
    have h1:=XD rs (k+1)
    have h2:=WM rs (show k+1≤n by omega)
    have h3:=Ht.out
    have h4:=hl0.out
    unfold total at h3
    rw [h4] at h3
    simp only [Qg,jeC] at h1
    omega
   have Hown:=Lib.hid hown
   have HO:=Lib.hid hO
   have HP:=Lib.hid hpts
   clear h hown hO hmax hpts
   go_wp2_with fail
   refine(W5 _ _ _ (rg rs k) _ (HP.out.over (by repeat (first | exact Over.refl _ | (with_reducible assumption) | refine Over.alloc_ ?_ _ | refine Over.trans ?_ (by with_reducible assumption) | refine Over.drew_ ?_ | refine Over.set_ ?_ (by simp;try omega) _))) hr).mono ?_
   rintro e w2 ⟨v,rfl,hrow,h2⟩
   have H2:=Lib.hid ((Over.alloc wr (.cells #[.slice Ak (rg rs k).length ck] 71)).trans h2)
   have Hrow:=Lib.hid hrow
   clear hrow h2
   go_wp2_with (at_builtin;refine Xx _ rfl _ _ 51 rfl w.heap.size 56 i0 _ 4 32 Tryz.underlying51 hi hz0 hz1 hz2 rfl (by decide) _ _ _ rfl (UY Hown.out H2.out) _ _ _ _ rfl Hrow.out (LR _) (by unfold maxLen;omega) (by omega) (by have:=HO.out.size;have:=H2.out.size;omega) ?_)
   intro v' w5 hown5 hgrow5
   have R1:Hid (Over w w5) :=yB HO.out Hown.out (jeD _) H2.out hgrow5
   have R2:Hid (w5.ownsRow w.heap.size 56 4 v' (Qg rs (k+1)).length ((Qg rs (k+1)).flatMap jZ)) :=by
    unfold Hid
    rw [hs.out]
    simpa using hown5
   clear hown5 hgrow5
   go_wp2
   go_roundw
   case rel=>exact⟨k+1,by omega,by go_num,R2.out,R1.out⟩
   case measure=>simp [intOf];omega
  ·clear h
   have hkn:k=n:=by omega
   have hb':=Lib.hid hO
   have hr:Hid (wr.ownsRow w.heap.size 56 4 u3 (Jm rs).length ((Jm rs).flatMap jZ)) :=by
    unfold Hid Jm
    rw [hl0.out,←hkn]
    exact hown
   clear hown hO
   go_wp2
   go_ret
   exact⟨_,rfl,hr.out,hb'.out⟩
end Go.Proofs.YtkagkgjjfdkoaaaGreat
