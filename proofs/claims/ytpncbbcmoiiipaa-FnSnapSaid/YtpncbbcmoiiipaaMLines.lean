import Derived.Test.YtpncbbcmoiiipaaMDat
import Derived.Test.YtpncbbcmoiiipaaML2
set_option linter.unusedVariables false
set_option linter.unusedSimpArgs false
namespace Go.Proofs.Ytpncbbcmoiiipaa
open Go.RowKit
def QX (ax ay bx b_y cx cy:Int) :Int:= (bx- ax) * (cy- ay) - (b_y- ay) * (cx- ax)
set_option maxHeartbeats 400000 in
theorem ZL (ax ay bx b_y cx cy:Int) (w:World) (a1: -1048576≤ax) (a2:ax≤1048576) (a3: -1048576≤ay) (a4:ay≤1048576) (b1: -1048576≤bx) (b2:bx≤1048576) (b3: -1048576≤b_y) (b4:b_y≤1048576)
  (c1: -1048576≤cx) (c2:cx≤1048576) (c3: -1048576≤cy) (c4:cy≤1048576) :
  Calls Try.prog 49 #[vS ax ay,vS bx b_y,vS cx cy] w fun e w'=>e= .returned (.int .i64 (QX ax ay bx b_y cx cy))∧Over w w':=by
 obtain ⟨u1,u1'⟩ :=Qk (a:=bx- ax) (b:=cy- ay) (A:=2097152) (B:=2097152) Om Om Om Om
 obtain ⟨u2,u2'⟩ :=Qk (a:=b_y- ay) (b:=cx- ax) (A:=2097152) (B:=2097152) Om Om Om Om
 go_enter Try.func49,Try.ntmps49
 go_wp2
 go_ret
 exact⟨by simp [QX],DB⟩
set_option maxHeartbeats 400000 in
theorem vc (ax ay bx b_y cx cy:Int) (w:World) (a1: -1048576≤ax) (a2:ax≤1048576) (a3: -1048576≤ay) (a4:ay≤1048576) (b1: -1048576≤bx) (b2:bx≤1048576) (b3: -1048576≤b_y) (b4:b_y≤1048576)
  (c1: -1048576≤cx) (c2:cx≤1048576) (c3: -1048576≤cy) (c4:cy≤1048576) :
  Calls Try.prog 43 #[vS ax ay,vS bx b_y,vS cx cy] w fun e w'=>e= .returned (.int .i64 (QX ax ay bx b_y cx cy))∧Over w w':=by
 obtain ⟨u1,u1'⟩ :=Qk (a:=bx- ax) (b:=cy- ay) (A:=2097152) (B:=2097152) Om Om Om Om
 obtain ⟨u2,u2'⟩ :=Qk (a:=b_y- ay) (b:=cx- ax) (A:=2097152) (B:=2097152) Om Om Om Om
 go_enter Try.func43,Try.ntmps43
 go_wp2
 go_ret
 exact⟨by simp [QX],DB⟩
theorem OS (ax ay bx b_y cx cy:Int) (a1: -262144≤ax) (a2:ax≤262144) (a3: -262144≤ay) (a4:ay≤262144) (b1: -262144≤bx) (b2:bx≤262144) (b3: -262144≤b_y) (b4:b_y≤262144)
  (c1: -262144≤cx) (c2:cx≤262144) (c3: -262144≤cy) (c4:cy≤262144) : -549755813888≤QX ax ay bx b_y cx cy∧QX ax ay bx b_y cx cy≤549755813888:=by
 have:=Qk (a:=bx- ax) (b:=cy- ay) (A:=524288) (B:=524288) Om Om Om Om
 have:=Qk (a:=b_y- ay) (b:=cx- ax) (A:=524288) (B:=524288) Om Om Om Om
 unfold QX
 omega
theorem Yk (a x D:Int) (hD:0<D) :WI (a*D+x) D=a+WI x D:=by
 have h1: (a*D+x) /D=a+x/D:=by rw [Int.add_comm,Int.add_mul_ediv_right _ _ Om];omega
 have h2: (a*D+x) % D=x % D:=by rw [Int.add_comm,Int.add_mul_emod_self_right]
 unfold WI
 rw [h1,h2]
 split<;>omega
def yX (ax bx num den:Int) :Int:=if den<0 then WI (ax* -den+ (bx- ax) * -num) (-den) else WI (ax*den+ (bx- ax) *num) den
theorem M9 (ax bx num den:Int) (h:den≠0) :yX ax bx num den=ax+ (if den<0 then WI ((bx- ax) * -num) (-den) else WI ((bx- ax) *num) den) :=by
 unfold yX
 split
 ·exact Yk _ _ _ Om
 ·exact Yk _ _ _ Om
def wz (ax ay bx b_y cx cy dx dy:Int) :Int:= (bx- ax) * (dy- cy) - (b_y- ay) * (dx- cx)
def uD (ax ay cx cy dx dy:Int) :Int:= (cx- ax) * (dy- cy) - (cy- ay) * (dx- cx)
set_option maxHeartbeats 2000000 in
set_option maxRecDepth 100000 in
theorem YK (ax ay bx b_y cx cy dx dy:Int) (w:World) (ha:KD ax ay=true) (hb:KD bx b_y=true) (hc:KD cx cy=true) (hd:KD dx dy=true) (hden:wz ax ay bx b_y cx cy dx dy≠0) :
  Calls Try.prog 33 #[vS ax ay,vS bx b_y,vS cx cy,vS dx dy] w fun e w'=>
   e= .returned (vS (yX ax bx (uD ax ay cx cy dx dy) (wz ax ay bx b_y cx cy dx dy)) (yX ay b_y (uD ax ay cx cy dx dy) (wz ax ay bx b_y cx cy dx dy)))∧Over w w':=by
 simp [KD,wB] at ha hb hc hd
 obtain ⟨⟨a1,a2⟩,a3,a4⟩ :=ha
 obtain ⟨⟨b1,b2⟩,b3,b4⟩ :=hb
 obtain ⟨⟨c1,c2⟩,c3,c4⟩ :=hc
 obtain ⟨⟨d1,d2⟩,d3,d4⟩ :=hd
 obtain ⟨u1,u1'⟩ :=Qk (a:=bx- ax) (b:=dy- cy) (A:=524288) (B:=524288) Om Om Om Om
 obtain ⟨u2,u2'⟩ :=Qk (a:=b_y- ay) (b:=dx- cx) (A:=524288) (B:=524288) Om Om Om Om
 obtain ⟨u3,u3'⟩ :=Qk (a:=cx- ax) (b:=dy- cy) (A:=524288) (B:=524288) Om Om Om Om
 obtain ⟨u4,u4'⟩ :=Qk (a:=cy- ay) (b:=dx- cx) (A:=524288) (B:=524288) Om Om Om Om
 by_cases hs: (bx- ax) * (dy- cy) - (b_y- ay) * (dx- cx) <0
 ·have hres:∀x y,yX x y (uD ax ay cx cy dx dy) (wz ax ay bx b_y cx cy dx dy) =WI (x* -((bx- ax) * (dy- cy) - (b_y- ay) * (dx- cx)) + (y- x) * -((cx- ax) * (dy- cy) - (cy- ay) * (dx- cx))) (-((bx- ax) * (dy- cy) - (b_y- ay) * (dx- cx))) :=by
   intro x y;unfold yX wz uD;rw [if_pos hs]
  have HR:=Lib.hid hres
  clear hres hden
  go_enter Try.func33,Try.ntmps33
  go_wp2
  have gD:1≤-((bx- ax) * (dy- cy) - (b_y- ay) * (dx- cx))∧-((bx- ax) * (dy- cy) - (b_y- ay) * (dx- cx))≤549755813888:=by omega
  have gN: -549755813888≤-((cx- ax) * (dy- cy) - (cy- ay) * (dx- cx))∧-((cx- ax) * (dy- cy) - (cy- ay) * (dx- cx))≤549755813888:=by omega
  generalize hD: -((bx- ax) * (dy- cy) - (b_y- ay) * (dx- cx)) =D at gD⊢
  generalize hN: -((cx- ax) * (dy- cy) - (cy- ay) * (dx- cx)) =N at gN⊢
  have HD:=Lib.hid hD
  have HN:=Lib.hid hN
  clear hD hN
  obtain ⟨gD1,gD2⟩ :=gD
  obtain ⟨gN1,gN2⟩ :=gN
  clear u1 u1' u2 u2' u3 u3' u4 u4' hs
  try clear hs0
  obtain ⟨v1,v1'⟩ :=Qk (a:=ax) (b:=D) (A:=262144) (B:=549755813888) Om Om Om Om
  obtain ⟨v2,v2'⟩ :=Qk (a:=bx- ax) (b:=N) (A:=524288) (B:=549755813888) Om Om Om Om
  obtain ⟨v3,v3'⟩ :=Qk (a:=ay) (b:=D) (A:=262144) (B:=549755813888) Om Om Om Om
  obtain ⟨v4,v4'⟩ :=Qk (a:=b_y- ay) (b:=N) (A:=524288) (B:=549755813888) Om Om Om Om
  refine Qc (B:=ob _) (Over.alloc _ _) Kr (by simp only [Fz,DT,D8,Nat.reduceAdd];rfl) (fun (hBW:Over _ _) => ?_);refine i8 0 ?_;refine i8 1 ?_;refine i8 2 ?_;refine i8 3 ?_;refine i8 4 ?_;refine i8 5 ?_;refine i8 6 ?_;refine i8 7 ?_;refine i8 8 ?_;refine i8 9 ?_;refine i8 10 ?_;refine i8 11 ?_;refine i8 12 ?_;refine w9 13 (hy:=fun wx hS=>by(go_simp;refine(KF _ _ _ Om Om Om Om).mono ?_;rintro e w1 ⟨rfl,rfl⟩;exact⟨rfl,Over.refl _⟩)) (h:= ?_)
  simp only [Act.put,qa,jP,jQ]
  refine i8 14 ?_;refine i8 15 ?_;refine i8 16 ?_;refine i8 17 ?_;refine i8 18 ?_;refine i8 19 ?_;refine i8 20 ?_;refine i8 21 ?_;refine i8 22 ?_;refine i8 23 ?_;refine i8 24 ?_;refine i8 25 ?_;refine i8 26 ?_;refine w9 27 (hy:=fun wx hS=>by(go_simp;refine(KF _ _ _ Om Om Om Om).mono ?_;rintro e w1 ⟨rfl,rfl⟩;exact⟨rfl,Over.refl _⟩)) (h:= ?_)
  simp only [Act.put,qa,jP,jQ]
  refine i8 28 ?_;refine yo (i:=29) (by simp only [JZ,J0,J9];rfl) Kr Kr (fun w2 h2 K hK=> ?_)
  obtain ⟨hc,hf⟩ :=jD h2
  have hzw2_0:w.heap.size<w2.heap.size:=DS (by simp<;>omega) (Over.size h2)
  have hzw2_1:w.heap.size+1<w2.heap.size:=DS (by simp<;>omega) (Over.size h2)
  have hzw2_2:w.heap.size+1+1<w2.heap.size:=DS (by simp<;>omega) (Over.size h2)
  have hzw2_3:w.heap.size+1+1+1<w2.heap.size:=DS (by simp<;>omega) (Over.size h2)
  have hzw2_4:w.heap.size+1+1+1+1<w2.heap.size:=DS (by simp<;>omega) (Over.size h2)
  go_step
  refine hK.out _ _ DB (fun hB=> ?_)
  clear hK K
  refine Qb Kr (fun w3 h3=> ?_) _
  try clear hBW
  go_wp2
  obtain ⟨hc,hf⟩ :=jD h3
  exact bodyPost_ret (v:=vS (WI (ax*D+ (bx- ax) *N) D) (WI (ay*D+ (b_y- ay) *N) D)) (by simp [results,Try.results33,go_sem, *]) rfl ⟨by rw [HR.out,HR.out,HD.out,HN.out],DB⟩
 ·have hres:∀x y,yX x y (uD ax ay cx cy dx dy) (wz ax ay bx b_y cx cy dx dy) =WI (x* ((bx- ax) * (dy- cy) - (b_y- ay) * (dx- cx)) + (y- x) * ((cx- ax) * (dy- cy) - (cy- ay) * (dx- cx))) ((bx- ax) * (dy- cy) - (b_y- ay) * (dx- cx)) :=by
   intro x y;unfold yX wz uD;rw [if_neg hs]
  have HR:=Lib.hid hres
  have hs0:0< (bx- ax) * (dy- cy) - (b_y- ay) * (dx- cx) :=by unfold wz at hden;omega
  clear hres hden
  go_enter Try.func33,Try.ntmps33
  go_wp2
  have gD:1≤((bx- ax) * (dy- cy) - (b_y- ay) * (dx- cx))∧((bx- ax) * (dy- cy) - (b_y- ay) * (dx- cx))≤549755813888:=by omega
  have gN: -549755813888≤((cx- ax) * (dy- cy) - (cy- ay) * (dx- cx))∧((cx- ax) * (dy- cy) - (cy- ay) * (dx- cx))≤549755813888:=by omega
  generalize hD: ((bx- ax) * (dy- cy) - (b_y- ay) * (dx- cx)) =D at gD⊢
  generalize hN: ((cx- ax) * (dy- cy) - (cy- ay) * (dx- cx)) =N at gN⊢
  have HD:=Lib.hid hD
  have HN:=Lib.hid hN
  clear hD hN
  obtain ⟨gD1,gD2⟩ :=gD
  obtain ⟨gN1,gN2⟩ :=gN
  clear u1 u1' u2 u2' u3 u3' u4 u4' hs
  try clear hs0
  obtain ⟨v1,v1'⟩ :=Qk (a:=ax) (b:=D) (A:=262144) (B:=549755813888) Om Om Om Om
  obtain ⟨v2,v2'⟩ :=Qk (a:=bx- ax) (b:=N) (A:=524288) (B:=549755813888) Om Om Om Om
  obtain ⟨v3,v3'⟩ :=Qk (a:=ay) (b:=D) (A:=262144) (B:=549755813888) Om Om Om Om
  obtain ⟨v4,v4'⟩ :=Qk (a:=b_y- ay) (b:=N) (A:=524288) (B:=549755813888) Om Om Om Om
  refine Qc (B:=ob _) (Over.alloc _ _) Kr (by simp only [Fz,DT,D8,Nat.reduceAdd];rfl) (fun (hBW:Over _ _) => ?_);refine i8 0 ?_;refine i8 1 ?_;refine i8 2 ?_;refine i8 3 ?_;refine i8 4 ?_;refine i8 5 ?_;refine i8 6 ?_;refine i8 7 ?_;refine i8 8 ?_;refine i8 9 ?_;refine i8 10 ?_;refine i8 11 ?_;refine i8 12 ?_;refine w9 13 (hy:=fun wx hS=>by(go_simp;refine(KF _ _ _ Om Om Om Om).mono ?_;rintro e w1 ⟨rfl,rfl⟩;exact⟨rfl,Over.refl _⟩)) (h:= ?_)
  simp only [Act.put,qa,jP,jQ]
  refine i8 14 ?_;refine i8 15 ?_;refine i8 16 ?_;refine i8 17 ?_;refine i8 18 ?_;refine i8 19 ?_;refine i8 20 ?_;refine i8 21 ?_;refine i8 22 ?_;refine i8 23 ?_;refine i8 24 ?_;refine i8 25 ?_;refine i8 26 ?_;refine w9 27 (hy:=fun wx hS=>by(go_simp;refine(KF _ _ _ Om Om Om Om).mono ?_;rintro e w1 ⟨rfl,rfl⟩;exact⟨rfl,Over.refl _⟩)) (h:= ?_)
  simp only [Act.put,qa,jP,jQ]
  refine i8 28 ?_;refine yo (i:=29) (by simp only [JZ,J0,J9];rfl) Kr Kr (fun w2 h2 K hK=> ?_)
  obtain ⟨hc,hf⟩ :=jD h2
  have hzw2_0:w.heap.size<w2.heap.size:=DS (by simp<;>omega) (Over.size h2)
  have hzw2_1:w.heap.size+1<w2.heap.size:=DS (by simp<;>omega) (Over.size h2)
  have hzw2_2:w.heap.size+1+1<w2.heap.size:=DS (by simp<;>omega) (Over.size h2)
  have hzw2_3:w.heap.size+1+1+1<w2.heap.size:=DS (by simp<;>omega) (Over.size h2)
  have hzw2_4:w.heap.size+1+1+1+1<w2.heap.size:=DS (by simp<;>omega) (Over.size h2)
  go_step
  refine hK.out _ _ DB (fun hB=> ?_)
  clear hK K
  refine Qb Kr (fun w3 h3=> ?_) _
  try clear hBW
  go_wp2
  obtain ⟨hc,hf⟩ :=jD h3
  exact bodyPost_ret (v:=vS (WI (ax*D+ (bx- ax) *N) D) (WI (ay*D+ (b_y- ay) *N) D)) (by simp [results,Try.results33,go_sem, *]) rfl ⟨by rw [HR.out,HR.out,HD.out,HN.out],DB⟩
end Go.Proofs.Ytpncbbcmoiiipaa
