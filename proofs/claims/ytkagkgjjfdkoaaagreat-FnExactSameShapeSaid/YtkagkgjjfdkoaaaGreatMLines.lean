import Derived.Test.YtkagkgjjfdkoaaaGreatMCorner
import Derived.Test.YtkagkgjjfdkoaaaGreatML2
import Derived.Test.YtkagkgjjfdkoaaaGreatMDat
import Derived.Test.YtkagkgjjfdkoaaaGreatMReg
set_option linter.unusedVariables false
set_option linter.unusedSimpArgs false
namespace Go.Proofs.YtkagkgjjfdkoaaaGreat
open Go.RowKit
def Kd (ax ay bx b_y cx cy:Int) :Int:= (bx- ax) * (cy- ay) - (b_y- ay) * (cx- ax)
set_option maxHeartbeats 400000 in
theorem Xr (ax ay bx b_y cx cy:Int) (w:World) (a1: -1048576≤ax) (a2:ax≤1048576) (a3: -1048576≤ay) (a4:ay≤1048576) (b1: -1048576≤bx) (b2:bx≤1048576) (b3: -1048576≤b_y) (b4:b_y≤1048576)
  (c1: -1048576≤cx) (c2:cx≤1048576) (c3: -1048576≤cy) (c4:cy≤1048576) :
  Calls Tryz.prog 108 #[W2 ax ay,W2 bx b_y,W2 cx cy] w fun e w'=>e= .returned (.int .i64 (Kd ax ay bx b_y cx cy))∧Over w w':=by
 obtain ⟨u1,u1'⟩ :=kg (a:=bx- ax) (b:=cy- ay) (A:=2097152) (B:=2097152) (by omega) (by omega) (by omega) (by omega)
 obtain ⟨u2,u2'⟩ :=kg (a:=b_y- ay) (b:=cx- ax) (A:=2097152) (B:=2097152) (by omega) (by omega) (by omega) (by omega)
 go_enter Tryz.func108,Tryz.ntmps108
 go_wp2
 go_ret
 exact⟨by simp [Kd],(by repeat (first | exact Over.refl _ | (with_reducible assumption) | refine Over.alloc_ ?_ _ | refine Over.trans ?_ (by with_reducible assumption) | refine Over.drew_ ?_ | refine Over.set_ ?_ (by simp;try omega) _))⟩
set_option maxHeartbeats 400000 in
theorem Ub (ax ay bx b_y cx cy:Int) (w:World) (a1: -1048576≤ax) (a2:ax≤1048576) (a3: -1048576≤ay) (a4:ay≤1048576) (b1: -1048576≤bx) (b2:bx≤1048576) (b3: -1048576≤b_y) (b4:b_y≤1048576)
  (c1: -1048576≤cx) (c2:cx≤1048576) (c3: -1048576≤cy) (c4:cy≤1048576) :
  Calls Tryz.prog 141 #[W2 ax ay,W2 bx b_y,W2 cx cy] w fun e w'=>e= .returned (.int .i64 (Kd ax ay bx b_y cx cy))∧Over w w':=by
 obtain ⟨u1,u1'⟩ :=kg (a:=bx- ax) (b:=cy- ay) (A:=2097152) (B:=2097152) (by omega) (by omega) (by omega) (by omega)
 obtain ⟨u2,u2'⟩ :=kg (a:=b_y- ay) (b:=cx- ax) (A:=2097152) (B:=2097152) (by omega) (by omega) (by omega) (by omega)
 go_enter Tryz.func141,Tryz.ntmps141
 go_wp2
 go_ret
 exact⟨by simp [Kd],(by repeat (first | exact Over.refl _ | (with_reducible assumption) | refine Over.alloc_ ?_ _ | refine Over.trans ?_ (by with_reducible assumption) | refine Over.drew_ ?_ | refine Over.set_ ?_ (by simp;try omega) _))⟩
theorem jdI (ax ay bx b_y cx cy:Int) (a1: -262144≤ax) (a2:ax≤262144) (a3: -262144≤ay) (a4:ay≤262144) (b1: -262144≤bx) (b2:bx≤262144) (b3: -262144≤b_y) (b4:b_y≤262144)
  (c1: -262144≤cx) (c2:cx≤262144) (c3: -262144≤cy) (c4:cy≤262144) : -549755813888≤Kd ax ay bx b_y cx cy∧Kd ax ay bx b_y cx cy≤549755813888:=by
 have:=kg (a:=bx- ax) (b:=cy- ay) (A:=524288) (B:=524288) (by omega) (by omega) (by omega) (by omega)
 have:=kg (a:=b_y- ay) (b:=cx- ax) (A:=524288) (B:=524288) (by omega) (by omega) (by omega) (by omega)
 unfold Kd
 omega
theorem Bx (a x D:Int) (hD:0<D) :zP (a*D+x) D=a+zP x D:=by
 have h1: (a*D+x) /D=a+x/D:=by rw [Int.add_comm,Int.add_mul_ediv_right _ _ (by omega)];omega
 have h2: (a*D+x) % D=x % D:=by rw [Int.add_comm,Int.add_mul_emod_self_right]
 unfold zP
 rw [h1,h2]
 split<;>omega
def M1 (ax bx num den:Int) :Int:=if den<0 then zP (ax* -den+ (bx- ax) * -num) (-den) else zP (ax*den+ (bx- ax) *num) den
theorem RQ (ax bx num den:Int) (h:den≠0) :M1 ax bx num den=ax+ (if den<0 then zP ((bx- ax) * -num) (-den) else zP ((bx- ax) *num) den) :=by
 unfold M1
 split
 ·exact Bx _ _ _ (by omega)
 ·exact Bx _ _ _ (by omega)
def zV (ax ay bx b_y cx cy dx dy:Int) :Int:= (bx- ax) * (dy- cy) - (b_y- ay) * (dx- cx)
def GQ (ax ay cx cy dx dy:Int) :Int:= (cx- ax) * (dy- cy) - (cy- ay) * (dx- cx)
set_option maxHeartbeats 2000000 in
set_option maxRecDepth 100000 in
theorem Db (ax ay bx b_y cx cy dx dy:Int) (w:World) (ha:wU ax ay=true) (hb:wU bx b_y=true) (hc:wU cx cy=true) (hd:wU dx dy=true) (hden:zV ax ay bx b_y cx cy dx dy≠0) :
  Calls Tryz.prog 74 #[W2 ax ay,W2 bx b_y,W2 cx cy,W2 dx dy] w fun e w'=>
   e= .returned (W2 (M1 ax bx (GQ ax ay cx cy dx dy) (zV ax ay bx b_y cx cy dx dy)) (M1 ay b_y (GQ ax ay cx cy dx dy) (zV ax ay bx b_y cx cy dx dy)))∧Over w w':=by
 simp [wU,XA] at ha hb hc hd
 obtain ⟨⟨a1,a2⟩,a3,a4⟩ :=ha
 obtain ⟨⟨b1,b2⟩,b3,b4⟩ :=hb
 obtain ⟨⟨c1,c2⟩,c3,c4⟩ :=hc
 obtain ⟨⟨d1,d2⟩,d3,d4⟩ :=hd
 obtain ⟨u1,u1'⟩ :=kg (a:=bx- ax) (b:=dy- cy) (A:=524288) (B:=524288) (by omega) (by omega) (by omega) (by omega)
 obtain ⟨u2,u2'⟩ :=kg (a:=b_y- ay) (b:=dx- cx) (A:=524288) (B:=524288) (by omega) (by omega) (by omega) (by omega)
 obtain ⟨u3,u3'⟩ :=kg (a:=cx- ax) (b:=dy- cy) (A:=524288) (B:=524288) (by omega) (by omega) (by omega) (by omega)
 obtain ⟨u4,u4'⟩ :=kg (a:=cy- ay) (b:=dx- cx) (A:=524288) (B:=524288) (by omega) (by omega) (by omega) (by omega)
 by_cases hs: (bx- ax) * (dy- cy) - (b_y- ay) * (dx- cx) <0
 ·have hres:∀x y,M1 x y (GQ ax ay cx cy dx dy) (zV ax ay bx b_y cx cy dx dy) =zP (x* -((bx- ax) * (dy- cy) - (b_y- ay) * (dx- cx)) + (y- x) * -((cx- ax) * (dy- cy) - (cy- ay) * (dx- cx))) (-((bx- ax) * (dy- cy) - (b_y- ay) * (dx- cx))) :=by
   intro x y;unfold M1 zV GQ;rw [if_pos hs]
  have HR:=Lib.hid hres
  clear hres hden
  go_enter Tryz.func74,Tryz.ntmps74
  go_wp2
  have gD:1≤-((bx- ax) * (dy- cy) - (b_y- ay) * (dx- cx))∧-((bx- ax) * (dy- cy) - (b_y- ay) * (dx- cx))≤549755813888:=by omega
  have gN: -549755813888≤-((cx- ax) * (dy- cy) - (cy- ay) * (dx- cx))∧-((cx- ax) * (dy- cy) - (cy- ay) * (dx- cx))≤549755813888:=by omega
  generalize hD: -((bx- ax) * (dy- cy) - (b_y- ay) * (dx- cx)) =D at gD⊢
  generalize hN: -((cx- ax) * (dy- cy) - (cy- ay) * (dx- cx)) =N at gN⊢
  have HD:=Lib.hid hD
  have HN:=Lib.hid hN
  clear hD hN
  obtain ⟨gD1,gD2⟩ :=gD
  obtain ⟨gN1,gN2⟩ :=gN
  clear u1 u1' u2 u2' u3 u3' u4 u4' hs
  try clear hs0
  obtain ⟨v1,v1'⟩ :=kg (a:=ax) (b:=D) (A:=262144) (B:=549755813888) (by omega) (by omega) (by omega) (by omega)
  obtain ⟨v2,v2'⟩ :=kg (a:=bx- ax) (b:=N) (A:=524288) (B:=549755813888) (by omega) (by omega) (by omega) (by omega)
  obtain ⟨v3,v3'⟩ :=kg (a:=ay) (b:=D) (A:=262144) (B:=549755813888) (by omega) (by omega) (by omega) (by omega)
  obtain ⟨v4,v4'⟩ :=kg (a:=b_y- ay) (b:=N) (A:=524288) (B:=549755813888) (by omega) (by omega) (by omega) (by omega)
  refine QZ (B:=ob _) (Over.alloc _ _) (by kernel_rfl) (by simp only [jfu,jeP,je6,Nat.reduceAdd];rfl) (fun (hBW:Over _ _) => ?_);refine w9 0 (hy:=fun wx hS=>by(obtain ⟨hc,hf⟩ :=Ji hS;clear hS;go_simp; (try go_bits);exact⟨rfl,Over.refl _⟩)) (h:= ?_)
  simp only [Act.put,xd7,ya,yb]
  refine w9 1 (hy:=fun wx hS=>by(obtain ⟨hc,hf⟩ :=Ji hS;clear hS;go_simp; (try go_bits);exact⟨rfl,Over.refl _⟩)) (h:= ?_)
  simp only [Act.put,xd7,ya,yb]
  refine w9 2 (hy:=fun wx hS=>by(obtain ⟨hc,hf⟩ :=Ji hS;clear hS;go_simp; (try go_bits);exact⟨rfl,Over.refl _⟩)) (h:= ?_)
  simp only [Act.put,xd7,ya,yb]
  refine w9 3 (hy:=fun wx hS=>by(obtain ⟨hc,hf⟩ :=Ji hS;clear hS;go_simp; (try go_bits);exact⟨rfl,Over.refl _⟩)) (h:= ?_)
  simp only [Act.put,xd7,ya,yb]
  refine w9 4 (hy:=fun wx hS=>by(obtain ⟨hc,hf⟩ :=Ji hS;clear hS;go_simp; (try go_bits);exact⟨rfl,Over.refl _⟩)) (h:= ?_)
  simp only [Act.put,xd7,ya,yb]
  refine w9 5 (hy:=fun wx hS=>by(obtain ⟨hc,hf⟩ :=Ji hS;clear hS;go_simp; (try go_bits);exact⟨rfl,Over.refl _⟩)) (h:= ?_)
  simp only [Act.put,xd7,ya,yb]
  refine w9 6 (hy:=fun wx hS=>by(obtain ⟨hc,hf⟩ :=Ji hS;clear hS;go_simp; (try go_bits);exact⟨rfl,Over.refl _⟩)) (h:= ?_)
  simp only [Act.put,xd7,ya,yb]
  refine w9 7 (hy:=fun wx hS=>by(obtain ⟨hc,hf⟩ :=Ji hS;clear hS;go_simp; (try go_bits);exact⟨rfl,Over.refl _⟩)) (h:= ?_)
  simp only [Act.put,xd7,ya,yb]
  refine w9 8 (hy:=fun wx hS=>by(obtain ⟨hc,hf⟩ :=Ji hS;clear hS;go_simp; (try go_bits);exact⟨rfl,Over.refl _⟩)) (h:= ?_)
  simp only [Act.put,xd7,ya,yb]
  refine w9 9 (hy:=fun wx hS=>by(obtain ⟨hc,hf⟩ :=Ji hS;clear hS;go_simp; (try go_bits);exact⟨rfl,Over.refl _⟩)) (h:= ?_)
  simp only [Act.put,xd7,ya,yb]
  refine w9 10 (hy:=fun wx hS=>by(obtain ⟨hc,hf⟩ :=Ji hS;clear hS;go_simp; (try go_bits);exact⟨rfl,Over.refl _⟩)) (h:= ?_)
  simp only [Act.put,xd7,ya,yb]
  refine w9 11 (hy:=fun wx hS=>by(obtain ⟨hc,hf⟩ :=Ji hS;clear hS;go_simp; (try go_bits);exact⟨rfl,Over.refl _⟩)) (h:= ?_)
  simp only [Act.put,xd7,ya,yb]
  refine w9 12 (hy:=fun wx hS=>by(obtain ⟨hc,hf⟩ :=Ji hS;clear hS;go_simp; (try go_bits);exact⟨rfl,Over.refl _⟩)) (h:= ?_)
  simp only [Act.put,xd7,ya,yb]
  refine w9 13 (hy:=fun wx hS=>by(go_simp;refine(un _ _ _ (by omega) (by omega) (by omega) (by omega)).mono ?_;rintro e w1 ⟨rfl,rfl⟩;exact⟨rfl,Over.refl _⟩)) (h:= ?_)
  simp only [Act.put,xd7,ya,yb]
  refine w9 14 (hy:=fun wx hS=>by(obtain ⟨hc,hf⟩ :=Ji hS;clear hS;go_simp; (try go_bits);exact⟨rfl,Over.refl _⟩)) (h:= ?_)
  simp only [Act.put,xd7,ya,yb]
  refine w9 15 (hy:=fun wx hS=>by(obtain ⟨hc,hf⟩ :=Ji hS;clear hS;go_simp; (try go_bits);exact⟨rfl,Over.refl _⟩)) (h:= ?_)
  simp only [Act.put,xd7,ya,yb]
  refine w9 16 (hy:=fun wx hS=>by(obtain ⟨hc,hf⟩ :=Ji hS;clear hS;go_simp; (try go_bits);exact⟨rfl,Over.refl _⟩)) (h:= ?_)
  simp only [Act.put,xd7,ya,yb]
  refine w9 17 (hy:=fun wx hS=>by(obtain ⟨hc,hf⟩ :=Ji hS;clear hS;go_simp; (try go_bits);exact⟨rfl,Over.refl _⟩)) (h:= ?_)
  simp only [Act.put,xd7,ya,yb]
  refine w9 18 (hy:=fun wx hS=>by(obtain ⟨hc,hf⟩ :=Ji hS;clear hS;go_simp; (try go_bits);exact⟨rfl,Over.refl _⟩)) (h:= ?_)
  simp only [Act.put,xd7,ya,yb]
  refine w9 19 (hy:=fun wx hS=>by(obtain ⟨hc,hf⟩ :=Ji hS;clear hS;go_simp; (try go_bits);exact⟨rfl,Over.refl _⟩)) (h:= ?_)
  simp only [Act.put,xd7,ya,yb]
  refine w9 20 (hy:=fun wx hS=>by(obtain ⟨hc,hf⟩ :=Ji hS;clear hS;go_simp; (try go_bits);exact⟨rfl,Over.refl _⟩)) (h:= ?_)
  simp only [Act.put,xd7,ya,yb]
  refine w9 21 (hy:=fun wx hS=>by(obtain ⟨hc,hf⟩ :=Ji hS;clear hS;go_simp; (try go_bits);exact⟨rfl,Over.refl _⟩)) (h:= ?_)
  simp only [Act.put,xd7,ya,yb]
  refine w9 22 (hy:=fun wx hS=>by(obtain ⟨hc,hf⟩ :=Ji hS;clear hS;go_simp; (try go_bits);exact⟨rfl,Over.refl _⟩)) (h:= ?_)
  simp only [Act.put,xd7,ya,yb]
  refine w9 23 (hy:=fun wx hS=>by(obtain ⟨hc,hf⟩ :=Ji hS;clear hS;go_simp; (try go_bits);exact⟨rfl,Over.refl _⟩)) (h:= ?_)
  simp only [Act.put,xd7,ya,yb]
  refine w9 24 (hy:=fun wx hS=>by(obtain ⟨hc,hf⟩ :=Ji hS;clear hS;go_simp; (try go_bits);exact⟨rfl,Over.refl _⟩)) (h:= ?_)
  simp only [Act.put,xd7,ya,yb]
  refine w9 25 (hy:=fun wx hS=>by(obtain ⟨hc,hf⟩ :=Ji hS;clear hS;go_simp; (try go_bits);exact⟨rfl,Over.refl _⟩)) (h:= ?_)
  simp only [Act.put,xd7,ya,yb]
  refine w9 26 (hy:=fun wx hS=>by(obtain ⟨hc,hf⟩ :=Ji hS;clear hS;go_simp; (try go_bits);exact⟨rfl,Over.refl _⟩)) (h:= ?_)
  simp only [Act.put,xd7,ya,yb]
  refine w9 27 (hy:=fun wx hS=>by(go_simp;refine(un _ _ _ (by omega) (by omega) (by omega) (by omega)).mono ?_;rintro e w1 ⟨rfl,rfl⟩;exact⟨rfl,Over.refl _⟩)) (h:= ?_)
  simp only [Act.put,xd7,ya,yb]
  refine w9 28 (hy:=fun wx hS=>by(obtain ⟨hc,hf⟩ :=Ji hS;clear hS;go_simp; (try go_bits);exact⟨rfl,Over.refl _⟩)) (h:= ?_)
  simp only [Act.put,xd7,ya,yb]
  refine MS (i:=29) (by simp only [xa7,xb7,xc7];rfl) (by kernel_rfl) (by kernel_rfl) (fun w2 h2 K hK=> ?_)
  obtain ⟨hc,hf⟩ :=Ji h2
  have hzw2_0:w.heap.size<w2.heap.size:=jeR (by simp<;>omega) (Over.size h2)
  have hzw2_1:w.heap.size+1<w2.heap.size:=jeR (by simp<;>omega) (Over.size h2)
  have hzw2_2:w.heap.size+1+1<w2.heap.size:=jeR (by simp<;>omega) (Over.size h2)
  have hzw2_3:w.heap.size+1+1+1<w2.heap.size:=jeR (by simp<;>omega) (Over.size h2)
  have hzw2_4:w.heap.size+1+1+1+1<w2.heap.size:=jeR (by simp<;>omega) (Over.size h2)
  go_step
  refine hK.out _ _ (by repeat (first | exact Over.refl _ | (with_reducible assumption) | refine Over.alloc_ ?_ _ | refine Over.trans ?_ (by with_reducible assumption) | refine Over.drew_ ?_ | refine Over.set_ ?_ (by simp;try omega) _)) (fun hB=> ?_)
  clear hK K
  refine QY (by kernel_rfl) (fun w3 h3=> ?_) _
  try clear hBW
  go_wp2
  obtain ⟨hc,hf⟩ :=Ji h3
  exact bodyPost_ret (v:=W2 (zP (ax*D+ (bx- ax) *N) D) (zP (ay*D+ (b_y- ay) *N) D)) (by simp [results,Tryz.results74,go_sem, *]) rfl ⟨by rw [HR.out,HR.out,HD.out,HN.out],(by repeat (first | exact Over.refl _ | (with_reducible assumption) | refine Over.alloc_ ?_ _ | refine Over.trans ?_ (by with_reducible assumption) | refine Over.drew_ ?_ | refine Over.set_ ?_ (by simp;try omega) _))⟩
 ·have hres:∀x y,M1 x y (GQ ax ay cx cy dx dy) (zV ax ay bx b_y cx cy dx dy) =zP (x* ((bx- ax) * (dy- cy) - (b_y- ay) * (dx- cx)) + (y- x) * ((cx- ax) * (dy- cy) - (cy- ay) * (dx- cx))) ((bx- ax) * (dy- cy) - (b_y- ay) * (dx- cx)) :=by
   intro x y;unfold M1 zV GQ;rw [if_neg hs]
  have HR:=Lib.hid hres
  have hs0:0< (bx- ax) * (dy- cy) - (b_y- ay) * (dx- cx) :=by unfold zV at hden;omega
  clear hres hden
  go_enter Tryz.func74,Tryz.ntmps74
  go_wp2
  have gD:1≤((bx- ax) * (dy- cy) - (b_y- ay) * (dx- cx))∧((bx- ax) * (dy- cy) - (b_y- ay) * (dx- cx))≤549755813888:=by omega
  have gN: -549755813888≤((cx- ax) * (dy- cy) - (cy- ay) * (dx- cx))∧((cx- ax) * (dy- cy) - (cy- ay) * (dx- cx))≤549755813888:=by omega
  generalize hD: ((bx- ax) * (dy- cy) - (b_y- ay) * (dx- cx)) =D at gD⊢
  generalize hN: ((cx- ax) * (dy- cy) - (cy- ay) * (dx- cx)) =N at gN⊢
  have HD:=Lib.hid hD
  have HN:=Lib.hid hN
  clear hD hN
  obtain ⟨gD1,gD2⟩ :=gD
  obtain ⟨gN1,gN2⟩ :=gN
  clear u1 u1' u2 u2' u3 u3' u4 u4' hs
  try clear hs0
  obtain ⟨v1,v1'⟩ :=kg (a:=ax) (b:=D) (A:=262144) (B:=549755813888) (by omega) (by omega) (by omega) (by omega)
  obtain ⟨v2,v2'⟩ :=kg (a:=bx- ax) (b:=N) (A:=524288) (B:=549755813888) (by omega) (by omega) (by omega) (by omega)
  obtain ⟨v3,v3'⟩ :=kg (a:=ay) (b:=D) (A:=262144) (B:=549755813888) (by omega) (by omega) (by omega) (by omega)
  obtain ⟨v4,v4'⟩ :=kg (a:=b_y- ay) (b:=N) (A:=524288) (B:=549755813888) (by omega) (by omega) (by omega) (by omega)
  refine QZ (B:=ob _) (Over.alloc _ _) (by kernel_rfl) (by simp only [jfu,jeP,je6,Nat.reduceAdd];rfl) (fun (hBW:Over _ _) => ?_);refine w9 0 (hy:=fun wx hS=>by(obtain ⟨hc,hf⟩ :=Ji hS;clear hS;go_simp; (try go_bits);exact⟨rfl,Over.refl _⟩)) (h:= ?_)
  simp only [Act.put,xd7,ya,yb]
  refine w9 1 (hy:=fun wx hS=>by(obtain ⟨hc,hf⟩ :=Ji hS;clear hS;go_simp; (try go_bits);exact⟨rfl,Over.refl _⟩)) (h:= ?_)
  simp only [Act.put,xd7,ya,yb]
  refine w9 2 (hy:=fun wx hS=>by(obtain ⟨hc,hf⟩ :=Ji hS;clear hS;go_simp; (try go_bits);exact⟨rfl,Over.refl _⟩)) (h:= ?_)
  simp only [Act.put,xd7,ya,yb]
  refine w9 3 (hy:=fun wx hS=>by(obtain ⟨hc,hf⟩ :=Ji hS;clear hS;go_simp; (try go_bits);exact⟨rfl,Over.refl _⟩)) (h:= ?_)
  simp only [Act.put,xd7,ya,yb]
  refine w9 4 (hy:=fun wx hS=>by(obtain ⟨hc,hf⟩ :=Ji hS;clear hS;go_simp; (try go_bits);exact⟨rfl,Over.refl _⟩)) (h:= ?_)
  simp only [Act.put,xd7,ya,yb]
  refine w9 5 (hy:=fun wx hS=>by(obtain ⟨hc,hf⟩ :=Ji hS;clear hS;go_simp; (try go_bits);exact⟨rfl,Over.refl _⟩)) (h:= ?_)
  simp only [Act.put,xd7,ya,yb]
  refine w9 6 (hy:=fun wx hS=>by(obtain ⟨hc,hf⟩ :=Ji hS;clear hS;go_simp; (try go_bits);exact⟨rfl,Over.refl _⟩)) (h:= ?_)
  simp only [Act.put,xd7,ya,yb]
  refine w9 7 (hy:=fun wx hS=>by(obtain ⟨hc,hf⟩ :=Ji hS;clear hS;go_simp; (try go_bits);exact⟨rfl,Over.refl _⟩)) (h:= ?_)
  simp only [Act.put,xd7,ya,yb]
  refine w9 8 (hy:=fun wx hS=>by(obtain ⟨hc,hf⟩ :=Ji hS;clear hS;go_simp; (try go_bits);exact⟨rfl,Over.refl _⟩)) (h:= ?_)
  simp only [Act.put,xd7,ya,yb]
  refine w9 9 (hy:=fun wx hS=>by(obtain ⟨hc,hf⟩ :=Ji hS;clear hS;go_simp; (try go_bits);exact⟨rfl,Over.refl _⟩)) (h:= ?_)
  simp only [Act.put,xd7,ya,yb]
  refine w9 10 (hy:=fun wx hS=>by(obtain ⟨hc,hf⟩ :=Ji hS;clear hS;go_simp; (try go_bits);exact⟨rfl,Over.refl _⟩)) (h:= ?_)
  simp only [Act.put,xd7,ya,yb]
  refine w9 11 (hy:=fun wx hS=>by(obtain ⟨hc,hf⟩ :=Ji hS;clear hS;go_simp; (try go_bits);exact⟨rfl,Over.refl _⟩)) (h:= ?_)
  simp only [Act.put,xd7,ya,yb]
  refine w9 12 (hy:=fun wx hS=>by(obtain ⟨hc,hf⟩ :=Ji hS;clear hS;go_simp; (try go_bits);exact⟨rfl,Over.refl _⟩)) (h:= ?_)
  simp only [Act.put,xd7,ya,yb]
  refine w9 13 (hy:=fun wx hS=>by(go_simp;refine(un _ _ _ (by omega) (by omega) (by omega) (by omega)).mono ?_;rintro e w1 ⟨rfl,rfl⟩;exact⟨rfl,Over.refl _⟩)) (h:= ?_)
  simp only [Act.put,xd7,ya,yb]
  refine w9 14 (hy:=fun wx hS=>by(obtain ⟨hc,hf⟩ :=Ji hS;clear hS;go_simp; (try go_bits);exact⟨rfl,Over.refl _⟩)) (h:= ?_)
  simp only [Act.put,xd7,ya,yb]
  refine w9 15 (hy:=fun wx hS=>by(obtain ⟨hc,hf⟩ :=Ji hS;clear hS;go_simp; (try go_bits);exact⟨rfl,Over.refl _⟩)) (h:= ?_)
  simp only [Act.put,xd7,ya,yb]
  refine w9 16 (hy:=fun wx hS=>by(obtain ⟨hc,hf⟩ :=Ji hS;clear hS;go_simp; (try go_bits);exact⟨rfl,Over.refl _⟩)) (h:= ?_)
  simp only [Act.put,xd7,ya,yb]
  refine w9 17 (hy:=fun wx hS=>by(obtain ⟨hc,hf⟩ :=Ji hS;clear hS;go_simp; (try go_bits);exact⟨rfl,Over.refl _⟩)) (h:= ?_)
  simp only [Act.put,xd7,ya,yb]
  refine w9 18 (hy:=fun wx hS=>by(obtain ⟨hc,hf⟩ :=Ji hS;clear hS;go_simp; (try go_bits);exact⟨rfl,Over.refl _⟩)) (h:= ?_)
  simp only [Act.put,xd7,ya,yb]
  refine w9 19 (hy:=fun wx hS=>by(obtain ⟨hc,hf⟩ :=Ji hS;clear hS;go_simp; (try go_bits);exact⟨rfl,Over.refl _⟩)) (h:= ?_)
  simp only [Act.put,xd7,ya,yb]
  refine w9 20 (hy:=fun wx hS=>by(obtain ⟨hc,hf⟩ :=Ji hS;clear hS;go_simp; (try go_bits);exact⟨rfl,Over.refl _⟩)) (h:= ?_)
  simp only [Act.put,xd7,ya,yb]
  refine w9 21 (hy:=fun wx hS=>by(obtain ⟨hc,hf⟩ :=Ji hS;clear hS;go_simp; (try go_bits);exact⟨rfl,Over.refl _⟩)) (h:= ?_)
  simp only [Act.put,xd7,ya,yb]
  refine w9 22 (hy:=fun wx hS=>by(obtain ⟨hc,hf⟩ :=Ji hS;clear hS;go_simp; (try go_bits);exact⟨rfl,Over.refl _⟩)) (h:= ?_)
  simp only [Act.put,xd7,ya,yb]
  refine w9 23 (hy:=fun wx hS=>by(obtain ⟨hc,hf⟩ :=Ji hS;clear hS;go_simp; (try go_bits);exact⟨rfl,Over.refl _⟩)) (h:= ?_)
  simp only [Act.put,xd7,ya,yb]
  refine w9 24 (hy:=fun wx hS=>by(obtain ⟨hc,hf⟩ :=Ji hS;clear hS;go_simp; (try go_bits);exact⟨rfl,Over.refl _⟩)) (h:= ?_)
  simp only [Act.put,xd7,ya,yb]
  refine w9 25 (hy:=fun wx hS=>by(obtain ⟨hc,hf⟩ :=Ji hS;clear hS;go_simp; (try go_bits);exact⟨rfl,Over.refl _⟩)) (h:= ?_)
  simp only [Act.put,xd7,ya,yb]
  refine w9 26 (hy:=fun wx hS=>by(obtain ⟨hc,hf⟩ :=Ji hS;clear hS;go_simp; (try go_bits);exact⟨rfl,Over.refl _⟩)) (h:= ?_)
  simp only [Act.put,xd7,ya,yb]
  refine w9 27 (hy:=fun wx hS=>by(go_simp;refine(un _ _ _ (by omega) (by omega) (by omega) (by omega)).mono ?_;rintro e w1 ⟨rfl,rfl⟩;exact⟨rfl,Over.refl _⟩)) (h:= ?_)
  simp only [Act.put,xd7,ya,yb]
  refine w9 28 (hy:=fun wx hS=>by(obtain ⟨hc,hf⟩ :=Ji hS;clear hS;go_simp; (try go_bits);exact⟨rfl,Over.refl _⟩)) (h:= ?_)
  simp only [Act.put,xd7,ya,yb]
  refine MS (i:=29) (by simp only [xa7,xb7,xc7];rfl) (by kernel_rfl) (by kernel_rfl) (fun w2 h2 K hK=> ?_)
  obtain ⟨hc,hf⟩ :=Ji h2
  have hzw2_0:w.heap.size<w2.heap.size:=jeR (by simp<;>omega) (Over.size h2)
  have hzw2_1:w.heap.size+1<w2.heap.size:=jeR (by simp<;>omega) (Over.size h2)
  have hzw2_2:w.heap.size+1+1<w2.heap.size:=jeR (by simp<;>omega) (Over.size h2)
  have hzw2_3:w.heap.size+1+1+1<w2.heap.size:=jeR (by simp<;>omega) (Over.size h2)
  have hzw2_4:w.heap.size+1+1+1+1<w2.heap.size:=jeR (by simp<;>omega) (Over.size h2)
  go_step
  refine hK.out _ _ (by repeat (first | exact Over.refl _ | (with_reducible assumption) | refine Over.alloc_ ?_ _ | refine Over.trans ?_ (by with_reducible assumption) | refine Over.drew_ ?_ | refine Over.set_ ?_ (by simp;try omega) _)) (fun hB=> ?_)
  clear hK K
  refine QY (by kernel_rfl) (fun w3 h3=> ?_) _
  try clear hBW
  go_wp2
  obtain ⟨hc,hf⟩ :=Ji h3
  exact bodyPost_ret (v:=W2 (zP (ax*D+ (bx- ax) *N) D) (zP (ay*D+ (b_y- ay) *N) D)) (by simp [results,Tryz.results74,go_sem, *]) rfl ⟨by rw [HR.out,HR.out,HD.out,HN.out],(by repeat (first | exact Over.refl _ | (with_reducible assumption) | refine Over.alloc_ ?_ _ | refine Over.trans ?_ (by with_reducible assumption) | refine Over.drew_ ?_ | refine Over.set_ ?_ (by simp;try omega) _))⟩
end Go.Proofs.YtkagkgjjfdkoaaaGreat
namespace Go.Proofs.YtkagkgjjfdkoaaaGreat
open Go Go.RowKit
section
variable {P:Program} {ops:Array Oper} {Q:Exit→Act→World→Prop} {md:Region.Mode} {B:Base}
def Uw (P:Program) (md:Region.Mode) (ops:Array Oper) (Q:Exit→Act→World→Prop) (B:Base) (f:Nat) :Nat→Array Bool→Act→World→Prop
 | 0,listed,a,W=>Region.ready md ops listed= []∧∀w,Over W w→Q .normal a w
 | fuel+1,listed,a,W=>
  (Region.ready md ops listed= []→∀w,Over W w→Q .normal a w)∧
  ∀i∈Region.ready md ops listed,∀w,Over W w→(i≠f→wpOp P ops Q i (fun a' w'=>B.holds w'∧Uw P md ops Q B f fuel (listed.setIfInBounds i true) a' w') a w)∧
   (i=f→Region.ready md ops (listed.setIfInBounds f true) = []∧wpOp P ops Q f (fun a' w'=>Q .normal a' w') a w)
theorem G2 {f:Nat} :∀(fuel:Nat) (listed:Array Bool) (a:Act) (W W':World),Over W W'→Uw P md ops Q B f fuel listed a W→Uw P md ops Q B f fuel listed a W'
 | 0,_,_,_,_,ho,h=>⟨h.1,fun w hw=>h.2 w (ho.trans hw)⟩
 | _+1,_,_,_,_,ho,h=>⟨fun h0 w hw=>h.1 h0 w (ho.trans hw),fun i hi w hw=>h.2 i hi w (ho.trans hw)⟩
theorem Cd {listed:Array Bool} {a:Act} {w:World} (hr:Region.ready md ops listed= []) (h:Q .normal a w) :∀fuel,wpAny P md ops Q fuel listed a w
 | 0=>⟨hr,h⟩
 | _+1=>⟨fun _=>h,by rw [hr];simp⟩
theorem MT {f:Nat} :∀(fuel:Nat) (listed:Array Bool) (a:Act) (W:World),Uw P md ops Q B f fuel listed a W→∀w,Over W w→wpAny P md ops Q fuel listed a w
 | 0,_,_,_,h,w,hS=>⟨h.1,h.2 w hS⟩
 | fuel+1,listed,a,_,h,w,hS=>⟨fun h0=>h.1 h0 w hS,fun i hi=>by
   by_cases hif:i=f
   ·subst hif
    obtain ⟨hr,hk⟩ := (h.2 i hi w hS).2 rfl
    exact wpOp_mono (fun a' w' h'=>Cd hr h' _) hk
   ·exact wpOp_mono (fun a' w' h'=>MT fuel _ a' w' h'.2 w' (Over.refl _)) ((h.2 i hi w hS).1 hif)⟩
def Q3 (md:Region.Mode) (ops:Array Oper) (f i:Nat) :Bool:=match ops[f]? with | some o=>o.after.any (fun e=>Region.binds md e&&e.on==i) | none=>false
theorem Gt {f i:Nat} {listed:Array Bool} (h:Q3 md ops f i=true) (hl:listed.getD i true=false) :f∉Region.ready md ops listed:=by
 intro hm
 obtain ⟨_,o,ho,hall⟩ :=mem_ready.1 hm
 unfold Q3 at h
 rw [ho] at h
 obtain ⟨e,he,h2⟩ :=Array.any_eq_true'.1 h
 rw [jeF] at h2
 have h3:e.on=i:=by simpa using h2.2
 have h4:=hall e he h2.1
 rw [h3] at h4
 rcases jfG i listed.size with h' | h'
 ·simp [h'] at h4 hl;rw [hl] at h4;cases h4
 ·simp [Array.getElem?_eq_none h'] at h4
theorem Fi {f i:Nat} {oi:Oper} {v:Value} (hi:ops[i]? =some oi) (hsel:∀(j:Nat) (o:Oper) cs b,ops[j]? =some o→o.op≠ .select cs b)
  (hQ:∀c a w,Q (.panic c) (a.put oi.dst v) w→Q (.panic c) a w) (hfi:Q3 md ops f i=true) (hne:i≠f) :
  ∀(fuel:Nat) (listed:Array Bool) (a:Act) (W:World),B.holds W→
   (∀j oj,ops[j]? =some oj→j≠i→listed.getD j true=false→(∀e∈oj.after,Region.binds md e=true→e.on≠i)→oi.apart ops oj=true)→
   i∈Region.ready md ops listed→Settles P ops B oi v a→
   Uw P md ops Q B f fuel (listed.setIfInBounds i true) (a.put oi.dst v) W→Uw P md ops Q B f (fuel+1) listed a W:=by
 intro fuel
 induction fuel with
 | zero=>
  intro listed a W hBW _ hr hy H
  refine⟨fun h=> (by rw [h] at hr;cases hr),fun j hj w hS=>⟨fun _=> ?_,fun hjf=>absurd hj (hjf▸Gt hfi (mem_ready.1 hr).1)⟩⟩
  by_cases hji:j=i
  ·subst hji;exact hy.wpOp hi (B.keep _ _ hBW hS) fun w' hw'=>⟨B.keep _ _ (B.keep _ _ hBW hS) hw',G2 _ _ _ _ _ (hS.trans hw') H⟩
  ·have:=ready_mono hj hji
   rw [H.1] at this
   cases this
 | succ fuel ih=>
  intro listed a W hBW hfree hr hy H
  refine⟨fun h=> (by rw [h] at hr;cases hr),fun j hj w hS=>⟨fun hjf=> ?_,fun hjf=>absurd hj (hjf▸Gt hfi (mem_ready.1 hr).1)⟩⟩
  by_cases hji:j=i
  ·subst hji;exact hy.wpOp hi (B.keep _ _ hBW hS) fun w' hw'=>⟨B.keep _ _ (B.keep _ _ hBW hS) hw',G2 _ _ _ _ _ (hS.trans hw') H⟩
  ·have h1:= (H.2 j (ready_mono hj hji) w hS).1 hjf
   obtain ⟨hjun,oj,hoj,hall⟩ :=mem_ready.1 hj
   have hnot:∀e∈oj.after,Region.binds md e=true→e.on≠i:=fun e he hb heq=>by
    have h1:=hall e he hb
    have h0:= (mem_ready.1 hr).1
    rw [heq] at h1
    rcases jfG i listed.size with h' | h'
    ·simp [h'] at h0 h1;rw [h0] at h1;cases h1
    ·simp [Array.getElem?_eq_none h'] at h1
   have h2:=U8 hoj (hfree j oj hoj hji hjun hnot) (fun cs b=>hsel i oi cs b hi) (fun cs b=>hsel j oj cs b hoj) hQ hy h1
   have hfree':∀k ok,ops[k]? =some ok→k≠i→(listed.setIfInBounds j true).getD k true=false→
     (∀e∈ok.after,Region.binds md e=true→e.on≠i)→oi.apart ops ok=true:=fun k ok hk hki hun hno=>by
    refine hfree k ok hk hki ?_ hno
    by_cases hjk:j=k
    ·subst hjk;exact hjun
    ·rw [getD_set_ne true hjk] at hun;exact hun
   refine wpOp_mono (fun a' w' h3=>⟨h3.2.1,ih (listed.setIfInBounds j true) a' w' h3.2.1 hfree' (ready_mono hr (Ne.symm hji)) h3.1 ?_⟩) h2
   rw [jfT _ _ hji]
   exact h3.2.2
theorem JX {f i:Nat} {oi:Oper} {v:Value} {fuel:Nat} {listed:Array Bool} {a:Act} {W:World} (hBW:B.holds W) (hi:ops[i]? =some oi)
  (hs:Region.noSelect ops=true) (hf:Region.free md ops listed i=true) (hr: (Region.ready md ops listed).contains i=true)
  (hQ:∀c a w,Q (.panic c) (a.put oi.dst v) w→Q (.panic c) a w) (hw:Region.wanted oi (yielded ops a.tmps) =true) (hfi: (Q3 md ops f i&&i !=f) =true)
  (hy:∀w,B.holds w→Gv P v w ((execOp a.eval oi).run P w)) (h:Uw P md ops Q B f fuel (listed.setIfInBounds i true) (a.put oi.dst v) W) :Uw P md ops Q B f (fuel+1) listed a W:=by
 rw [jeF] at hfi
 exact Fi hi (Region.noSelect_spec hs) hQ hfi.1 (by simpa using hfi.2) fuel listed a W hBW (Region.free_spec hi hf) (by simpa using hr) (.inl ⟨hw,fun w hS=> (hy w hS).gives⟩) h
theorem G1 {f:Nat} {oi:Oper} {fuel:Nat} {listed:Array Bool} {a:Act} {W:World} (hBW:B.holds W) (hi:ops[f]? =some oi)
  (hr:Region.ready md ops listed= [f]) (hr':Region.ready md ops (listed.setIfInBounds f true) = []) (hw:Region.wanted oi (yielded ops a.tmps) =true)
  (h:∀w,Over W w→B.holds w→Oper.wp P oi a w (fun a' w'=>Q .normal a' w') Q) :
  Uw P md ops Q B f (fuel+1) listed a W:=by
 refine⟨fun h0=> (by rw [h0] at hr;cases hr),fun j hj w hS=> ?_⟩
 rw [hr] at hj
 simp only [jeT] at hj
 subst hj
 refine⟨fun hne=>absurd J hne,fun _=>⟨hr',?_⟩⟩
 unfold Go.wpOp
 simp only [hi,hw,if_true]
 exact .inl (h w hS (B.keep _ _ hBW hS))
theorem Ha (f:Nat) {id n:Nat} {a:Act} {w:World} (hB:B.holds w) (hm:P.follows .mixedOrders=true) (hn:ops.size=n)
  (h:B.holds w→Uw P .any ops Q B f n (Array.replicate n false) a w) : (Code.region id ops true).wp P Q a w:=by
 subst hn
 exact wp_region_any hm (MT _ _ _ _ (h hB) _ (Below.refl _ _).drew)
end
end Go.Proofs.YtkagkgjjfdkoaaaGreat
