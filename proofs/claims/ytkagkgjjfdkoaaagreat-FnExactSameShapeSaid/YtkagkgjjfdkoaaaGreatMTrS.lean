import Derived.Test.YtkagkgjjfdkoaaaGreatMTrP
import Derived.Test.YtkagkgjjfdkoaaaGreatMNetI
import Derived.Test.YtkagkgjjfdkoaaaGreatMOrder
import Derived.Test.YtkagkgjjfdkoaaaGreatMSnapB
set_option linter.unusedVariables false
set_option linter.unusedSimpArgs false
namespace Go.Proofs.YtkagkgjjfdkoaaaGreat
open Go Go.RowKit
set_option maxRecDepth 100000
set_option maxHeartbeats 4000000
theorem O8 (o a:Pn) (w:World) :Calls Tryz.prog 192 #[pV o,pV a] w fun e w'=>e= .returned (.int .i64 (Ux o a))∧Over w w':=by
 refine jU (m:=24) (Tryz.func192) J J (lb J) ?_;refine S3 ?_;refine aX (fun b1=> ?_);refine N1 ?_;refine aX (fun b2=> ?_);refine N3 ?_;refine qd [(23, .bool (decide (a.2>o.2∨(a.2=o.2∧a.1>o.1))))] (kK [4]) (fun L h_1=> ?_) ?_
 ·refine S7 ?_;refine cV 10 (fun g1=> ?_) (fun g1=> ?_)
  ·refine S14 ?_
   exact Jb h_1 ⟨vb (decide_eq_true (.inl (by omega))).symm,sz⟩ (u9 J)
  ·refine S12 ?_;refine cV 16 (fun g2=> ?_) (fun g2=> ?_)
   ·refine S14 ?_
    exact Jb h_1 ⟨vb (by rw [jfo,decide_eq_true_iff,decide_eq_true_iff];omega),sz⟩ (u9 J)
   ·refine S9 ?_
    exact Jb h_1 ⟨vb (decide_eq_false (by omega)).symm,sz⟩ (u9 J)
 ·refine v9 ?_;refine cZ (fun c1=> ?_) (fun c1=> ?_)
  ·refine S6 ?_;refine jL J (.tmp J) ?_
   intro w' hs
   exact⟨W8 (by rw [Ux,if_pos c1]),hs.fin⟩
  ·refine S7 ?_;refine jL J (.tmp J) ?_
   intro w' hs
   exact⟨W8 (by rw [Ux,if_neg c1]),hs.fin⟩
theorem YG (o a b:Pn) (w:World) (ho:bd2 o) (ha:bd2 a) (hb:bd2 b) :Calls Tryz.prog 170 #[pV o,pV a,pV b] w fun e w'=>e= .returned (.int .i64 (Ll o a b))∧Over w w':=by
 have h1:=yR o a
 have h2:=yR o b
 have h3:=jdE (tn o a b)
 refine jU (m:=28) (Tryz.func170) J J (lb J) ?_;refine S3 ?_;refine aX (fun b1=> ?_);refine N1 ?_;refine aX (fun b2=> ?_);refine N1 ?_;refine aX (fun b3=> ?_);refine N6 ?_;refine a9 (jH yX J J (fun w1 hs=>O8 o a w1)) ?_;refine S6 ?_;refine a9 (jH yX J J (fun w1 hs=>O8 o b w1)) ?_;refine S9 ?_;refine cZ (fun c1=> ?_) (fun c1=> ?_)
 ·refine S5 ?_;refine a9 (jH KJ J J (fun w1 hs=>wI _ w1)) ?_;refine S4 ?_;refine jL J (.tmp J) ?_
  intro w' hs
  exact⟨W8 (by rw [Ll,if_pos c1]),hs.fin⟩
 ·refine S7 ?_;refine a9 (jH Qi J J (fun w1 hs=>wJ o a b w1 ho ha hb)) ?_;refine a9 (jH KJ J J (fun w1 hs=>wI _ w1)) ?_;refine a9 (YT J J (by omega) (by omega)) ?_;refine S3 ?_;refine jL J (.tmp J) ?_
  intro w' hs
  exact⟨W8 (by rw [Ll,if_neg (by simpa using c1)]),hs.fin⟩
theorem GH (v f p q:Pn) (w:World) (hv:bd2 v) (hf:bd2 f) (hp:bd2 p) (hq:bd2 q) :Calls Tryz.prog 148 #[pV v,pV f,pV p,pV q] w fun e w'=>e= .returned (.bool (Xi v f p q))∧Over w w':=by
 refine jU (m:=30) (Tryz.func148) J J (lb J) ?_;refine S3 ?_;refine aX (fun b1=> ?_);refine N1 ?_;refine aX (fun b2=> ?_);refine N1 ?_;refine aX (fun b3=> ?_);refine N1 ?_;refine aX (fun b4=> ?_);refine N7 ?_;refine a9 (jH Wf J J (fun w1 hs=>YG v p f w1 hv hp hf)) ?_;refine S8 ?_;refine a9 (jH Wf J J (fun w1 hs=>YG v q f w1 hv hq hf)) ?_;refine S8 ?_;refine a9 (x7 Y9 J J J) ?_;refine S1 ?_;refine cZ (fun c1=> ?_) (fun c1=> ?_)
 ·refine S7 ?_;refine jL J (.tmp J) ?_
  intro w' hs
  exact⟨QJ (by rw [Xi,if_pos c1]),hs.fin⟩
 ·refine S7 ?_;refine a9 (jH Wf J J (fun w1 hs=>YG v p q w1 hv hp hq)) ?_;refine S4 ?_;refine jL J (.tmp J) ?_
  intro w' hs
  exact⟨QJ (by rw [Xi,if_neg (by simpa using c1)]),hs.fin⟩
def Ye:Option Nat→Int
 | none=> -1
 | some m=> (m:Int)
theorem UF {b:Option Nat} (h:0≤Ye b) :∃m,b=some m:=by
 cases b with
 | none=>simp [Ye] at h
 | some m=>exact⟨m,rfl⟩
theorem UE {b:Option Nat} (h:Ye b<0) :b=none:=by
 cases b with
 | none=>rfl
 | some m=>exact absurd (show(m:Int) <0 from h) (jfx.2 (jfV m))
abbrev boR (n:Nat) (u:List Bool) (x:Option Addr×Nat) :Res:=JP 0 4 1 n (u.map Value.bool) x
theorem jcV {u:List Bool} {k:Nat} (h:k<u.length) : (u.map Value.bool)[k]? =some (.bool (Gm u k)) :=by simp [Gm,List.getD,h]
section
variable {w0:Bs} {Rs:List Res}
theorem jb3 {n:Nat} {u:List Bool} {r:Option Addr×Nat} {k:Nat} (hr:∀w,St w0 Rs w→(boR n u r).P w) (h:k<u.length) :∀w,St w0 Rs w→w.cell? ⟨wN r.1,0+k*1,none⟩ =some (.bool (Gm u k)) :=fun w hs=>by
 rw [je3,jfz]
 exact Xc (hr w hs) (jcV h)
end
theorem jcY {B:List Leg} {u:List Bool} {v:Pn} {i:Nat} (h:Gm u i=true) :true= !(wY B u v i) :=by simp [wY,h]
theorem jcZ {B:List Leg} {u:List Bool} {v:Pn} {i:Nat} (h:Gm u i=false) : (!((lg B i).ax==v.1&& (lg B i).ay==v.2)) = !(wY B u v i) :=by
 have e: ((lg B i).ax==v.1&& (lg B i).ay==v.2) =decide (lA (lg B i) =v) :=by
  rw [jfo]
  simp [lA,Prod.ext_iff]
 rw [e,wY,h]
 rfl
theorem jca {S:Nat→Bool} {lt:Nat→Nat→Bool} {i:Nat} (h:S i=false) :VN S lt (i+1) =VN S lt i:=by
 rw [VF]
 unfold H7
 cases VN S lt i<;>simp [h]
def Zc (lt:Nat→Nat→Bool) (b:Option Nat) (i:Nat) :Bool:=match b with
 | none=>true
 | some m=>lt i m
theorem PO {S:Nat→Bool} {lt:Nat→Nat→Bool} {i:Nat} (h:S i=true) (ht:Zc lt (VN S lt i) i=true) :VN S lt (i+1) =some i:=by
 rw [VF]
 unfold H7
 unfold Zc at ht
 cases e:VN S lt i<;>rw [e] at ht<;>simp_all
theorem PN {S:Nat→Bool} {lt:Nat→Nat→Bool} {i:Nat} (h:S i=true) (ht:Zc lt (VN S lt i) i=false) :VN S lt (i+1) =VN S lt i:=by
 rw [VF]
 unfold H7
 unfold Zc at ht
 cases e:VN S lt i<;>rw [e] at ht<;>simp_all
theorem Ou {B:List Leg} (hok:∀l∈B,qO l) {k:Nat} (h:k<B.length) :bd2 (lA (lg B k))∧bd2 (lB (lg B k)) :=by
 have:=Q6 hok h
 exact⟨⟨this.1,this.2.1⟩,this.2.2.1,this.2.2.2⟩
theorem GG (A:Option Addr) (n c:Nat) (B:List Leg) (x:Option Addr×Nat) (u:List Bool) (a:Nat) (w:World) (h:Legs w A n B) (hok:∀l∈B,qO l) (hn:n≤1048576) (hu: (boR n u x).P w) (hul:u.length=n) (ha:a<n) :
  Calls Tryz.prog 104 #[.slice A n c, .slice x.1 n x.2, .int .i64 (a:Int)] w fun e w'=>e= .returned (.int .i64 (Ye (xE B u a)))∧Over w w':=by
 have hl:=h.1
 obtain ⟨eb,eo,rfl,_⟩ :=h.2 (by omega)
 obtain ⟨hb1,hb2⟩ :=Ou hok (show a<B.length by omega)
 obtain ⟨S,hS⟩ :∃S,S=wY B u (lB (lg B a)) :=⟨_,rfl⟩
 obtain ⟨lt,hlt⟩ :∃lt,lt=Ev B (lB (lg B a)) (lA (lg B a)) :=⟨_,rfl⟩
 refine jU (m:=59) (Tryz.func104) J J (lb J) ?_;refine S8 ?_;refine a9 (jT (j:=a) J J J Jr (by omega)) ?_;refine S1 ?_;refine a9 (jj J J jl J (qR (fun w' hs=>h.over hs.fin) ha)) ?_;refine S1 ?_;refine aL (fun b1=> ?_);refine N7 ?_;refine a9 (jT (j:=a) J J J Jr (by omega)) ?_;refine S1 ?_;refine a9 (jj J J jl J (Qc (fun w' hs=>h.over hs.fin) ha)) ?_;refine S1 ?_;refine aL (fun b2=> ?_);refine N13 ?_;refine qi (X:=Nat) (fun i=>i≤n) (fun i=>n- i) (fun i=> [(9, .int .i64 (Ye (VN S lt i))),(10, .int .i64 (i:Int))]) (kK [0,1,6,7,8]) 0 (jeE _) ⟨J,sz⟩ ?_
 intro i hi L hL1
 refine V8 ?_;refine cZ (fun c1=> ?_) (fun c1=> ?_)
 ·have hil:i<n:= (by omega)
  obtain ⟨hi1,hi2⟩ :=Ou hok (show i<B.length by omega)
  refine S5 ?_;refine qd [(39, .bool (!(S i)))] (kK [0,1,6,7,8,9,10,21,22,23,24]) (fun L h_7=> ?_) ?_
  ·refine S1 ?_;refine Jw 13 ?_;refine dK 0 ?_;refine dK 1 ?_;refine dZ 2 J (qx (j:=i) (fun w hs=>q5 hu hs.fin) J J J vp hil) ?_;refine dZ 3 J (jr J J QC (jb3 (fun w hs=>q5 hu hs.fin) (by omega))) ?_;refine dK 4 ?_;refine cV 31 (fun g1=> ?_) (fun g1=> ?_)
   ·refine fK 5 ?_;refine fK 6 ?_;refine fK 7 ?_;refine fK 8 ?_;refine fK 9 ?_;refine fK 10 ?_;refine fK 11 ?_;refine dK 12 ?_;refine Jj (by kernel_rfl) ?_;refine S1 ?_
    exact Jb h_7 ⟨vb (by rw [hS];exact jcY g1),sz⟩ (u9 J)
   ·refine eK 5 ?_;refine eK 6 ?_;refine eZ 7 J (jT (j:=i) J J J Jr (by omega)) ?_;refine eK 8 ?_;refine eZ 9 J (jj J J jl J (Qc (fun w' hs=>h.over hs.fin) hil)) ?_;refine eK 10 ?_;refine eK 11 ?_;refine dK 12 ?_;refine Jj (by kernel_rfl) ?_;refine S1 ?_
    exact Jb h_7 ⟨vb (by rw [hS];exact jcZ (v:=lB (lg B a)) g1),sz⟩ (u9 J)
  ·refine v9 ?_;refine cZ (fun c2=> ?_) (fun c2=> ?_)
   ·refine S9 ?_
    exact J8 hL1 (i+1) (by omega) (by omega) ⟨vi (by rw [jca c2]),vi (by omega),sz⟩ (u9 J)
   ·refine S2 ?_;refine qd [(56, .bool (Zc lt (VN S lt i) i))] (kK [0,1,6,7,8,9,10,21,22,23,24,39]) (fun L h_8=> ?_) ?_
    ·refine S1 ?_;refine Jw 17 ?_;refine dK 0 ?_;refine dK 1 ?_;refine dK 2 ?_;refine cV 42 (fun g2=> ?_) (fun g2=> ?_)
     ·refine fK 3 ?_;refine fK 4 ?_;refine fK 5 ?_;refine fK 6 ?_;refine fK 7 ?_;refine fK 8 ?_;refine fK 9 ?_;refine fK 10 ?_;refine fK 11 ?_;refine fK 12 ?_;refine fK 13 ?_;refine fK 14 ?_;refine fK 15 ?_;refine dK 16 ?_;refine Jj (by kernel_rfl) ?_;refine S1 ?_
      exact Jb h_8 ⟨vb (by rw [UE g2];rfl),sz⟩ (u9 J)
     ·obtain ⟨m,hm⟩ :=UF g2
      have hmi:= (U0 hm).1
      obtain ⟨hm1,hm2⟩ :=Ou hok (show m<B.length by omega)
      refine eK 3 ?_;refine eK 4 ?_;refine eK 5 ?_;refine eK 6 ?_;refine eZ 7 J (jT (j:=i) J J J Jr (by omega)) ?_;refine eK 8 ?_;refine eZ 9 J (jj J J jl J (qR (fun w' hs=>h.over hs.fin) hil)) ?_;refine eK 10 ?_;refine eZ 11 J ((ja J J).as (congrArg _ (show Ye (VN S lt i) = ((m:Nat) :Int) by rw [hm];rfl))) ?_;refine eZ 12 J (jT (j:=m) J J J Jr (by omega)) ?_;refine eK 13 ?_;refine eZ 14 J (jj J J jl J (qR (j:=m) (fun w' hs=>h.over hs.fin) (by omega))) ?_;refine eZ 15 J (jH Ug J J (fun w1 hs=>GH (lB (lg B a)) (lA (lg B a)) (lB (lg B i)) (lB (lg B m)) w1 hb2 hb1 hi2 hm2)) ?_;refine dK 16 ?_;refine Jj (by kernel_rfl) ?_;refine S1 ?_
      exact Jb h_8 ⟨vb (by rw [hm,hlt];rfl),sz⟩ (u9 J)
    ·refine v9 ?_;refine cZ (fun c3=> ?_) (fun c3=> ?_)
     ·refine S11 ?_
      exact J8 hL1 (i+1) (by omega) (by omega) ⟨vi (by rw [PO c2 c3];rfl),vi (by omega),sz⟩ (u9 J)
     ·refine S8 ?_
      exact J8 hL1 (i+1) (by omega) (by omega) ⟨vi (by rw [PN c2 c3]),vi (by omega),sz⟩ (u9 J)
 ·have hin:i=n:= (by omega)
  refine S11 ?_;refine jL J (.tmp J) ?_
  intro w' hs
  exact⟨W8 (by rw [hin,←hl,hS,hlt];rfl),hs.fin⟩
theorem On (A:Option Addr) (n c:Nat) (B:List Leg) (x:Option Addr×Nat) (u:List Bool) (a f:Nat) (w:World) (h:Legs w A n B) (hok:∀l∈B,qO l) (hn:n≤1048576) (hu: (boR n u x).P w) (hul:u.length=n) (ha:a<n) (hf:f<n) :
  Calls Tryz.prog 103 #[.slice A n c, .slice x.1 n x.2, .int .i64 (a:Int), .int .i64 (f:Int)] w fun e w'=>e= .returned (.bool (Yt B u a f))∧Over w w':=by
 have hl:=h.1
 obtain ⟨eb,eo,rfl,_⟩ :=h.2 (by omega)
 obtain ⟨hb1,hb2⟩ :=Ou hok (show a<B.length by omega)
 obtain ⟨hf1,hf2⟩ :=Ou hok (show f<B.length by omega)
 refine jU (m:=37) (Tryz.func103) J J (lb J) ?_;refine S9 ?_;refine a9 (jH y4 J J (fun w1 hs=>GG _ n c B x u a w1 (h.over hs.fin) hok hn (q5 hu hs.fin) hul ha)) ?_;refine S8 ?_;refine cZ (fun c1=> ?_) (fun c1=> ?_)
 ·refine S6 ?_;refine jL J (.tmp J) ?_
  intro w' hs
  exact⟨QJ (by rw [Yt,UE c1]),hs.fin⟩
 ·obtain ⟨m,hm⟩ :=UF c1
  have hmi:= (U0 hm).1
  obtain ⟨hm1,hm2⟩ :=Ou hok (show m<B.length by omega)
  rw [hm]
  refine S4 ?_;refine Jw 22 ?_;refine dK 0 ?_;refine dK 1 ?_;refine dZ 2 J (jT (j:=a) J J J Jr (by omega)) ?_;refine dK 3 ?_;refine dZ 4 J (jj J J jl J (qR (fun w' hs=>h.over hs.fin) ha)) ?_;refine dK 5 ?_;refine dK 6 ?_;refine dZ 7 J (jT (j:=a) J J J Jr (by omega)) ?_;refine dK 8 ?_;refine dZ 9 J (jj J J jl J (Qc (fun w' hs=>h.over hs.fin) ha)) ?_;refine dK 10 ?_;refine dK 11 ?_;refine dZ 12 J (jT (j:=f) J J J Jr (by omega)) ?_;refine dK 13 ?_;refine dZ 14 J (jj J J jl J (qR (fun w' hs=>h.over hs.fin) hf)) ?_;refine dK 15 ?_;refine dZ 16 J ((ja J J).as (congrArg _ (show Ye (some m) = ((m:Nat) :Int) from J))) ?_;refine dZ 17 J (jT (j:=m) J J J Jr (by omega)) ?_;refine dK 18 ?_;refine dZ 19 J (jj J J jl J (qR (j:=m) (fun w' hs=>h.over hs.fin) (by omega))) ?_;refine dZ 20 J (jH Ug J J (fun w1 hs=>GH (lB (lg B a)) (lA (lg B a)) (lB (lg B f)) (lB (lg B m)) w1 hb2 hb1 hf2 hm2)) ?_;refine dK 21 ?_;refine Jj (by kernel_rfl) ?_;refine S2 ?_;refine jL J (.tmp J) ?_
  intro w' hs
  exact⟨QJ (by rw [Yt,hm];rfl),hs.fin⟩
theorem OM {n:Nat} {env:List (Nat×Value)} {w0:Bs} {Rs:List Res} {K:Act→World→Prop} (k s m:Nat) {b U:Nat} {cs:List Value} (hk:Rs[k]? =some (.cel b U cs)) (hl:cs.length=m*s) (hm:m≤1048576) (h:At n env w0 (Rs.set k (.row 0 U s (.slice (some ⟨b,0,none⟩) m m) m cs)) K) :At n env w0 Rs K:=fun a w hf hs=>by
 refine h a w hf (hs.chg hk (fun hP=> ?_) (fun c hc=> ?_) J)
 ·have hP:w.heap[b]? =some (.cells cs.toArray U (0,0)) :=hP
  exact⟨hl, .inr ⟨b,m,cs.toArray,rfl,jeE _,hP,jeD _,by unfold maxLen;omega,by simpa using hl,by rw [←hl];simp⟩⟩
 ·have:some b=some c:=hc
  injection this with this
  exact this.symm
theorem CZ (n:Nat) : (madeCells #[Value.bool false] n).toList= (List.replicate n false).map Value.bool:=by
 refine jfR (by simp [madeCells]) fun k h1 h2=> ?_
 simp [madeCells,Nat.mod_one]
theorem Cw {u:List Bool} {k:Nat} (h:k<u.length) :qk (u.map Value.bool) (0+k*1) [.bool true] = (u.set k true).map Value.bool:=by
 rw [je3,jfz,qk,qk,List.map_set]
structure BoOk (B:List Leg) :Prop where
 ok:∀l∈B,qO l
 len:B.length≤4096
def GX (B:List Leg) (u:List Bool) (f a:Nat) :Bool:=decide (lB (lg B a) =lA (lg B f)) &&Yt B u a f
theorem P8 {B:List Leg} {u:List Bool} {f a:Nat} (h:GX B u f a=true) :Za B u f a=none:=if_pos h
theorem jcj {B:List Leg} {u:List Bool} {f a:Nat} (h:GX B u f a=false) :Za B u f a=xE B u a:=if_neg (by rw [show(decide (lB (lg B a) =lA (lg B f)) &&Yt B u a f) =false from h];simp)
def RunX (B:List Leg) (f:Nat) (u0 u:List Bool) (a:Option Nat) (ps:List Pn) :Prop:=match a with
 | some k=>RunI B f u0 u k ps
 | none=>UZ B f (WT u0) u0 f [] = (u,ps)∧u.length=B.length
theorem RunX.go {B:List Leg} {f:Nat} {u0 u:List Bool} {k:Nat} {ps:List Pn} (h:RunI B f u0 u k ps) (hz:GX B (u.set k true) f k=false) :RunX B f u0 (u.set k true) (xE B (u.set k true) k) (ps++ [lA (lg B k)]) :=by
 have hs:=jcj hz
 cases e:xE B (u.set k true) k with
 | none=>exact⟨h.stop (by rw [hs,e]),by rw [jfM];exact h.len⟩
 | some m=>exact h.more (by rw [hs,e])
theorem jch {B:List Leg} {u:List Bool} {f k:Nat} (h: ((lg B k).bx== (lg B f).ax&& (lg B k).b_y== (lg B f).ay) =true) :Yt B u k f=GX B u f k:=by
 simp only [jeF,beq_iff_eq] at h
 have e:lB (lg B k) =lA (lg B f) :=Prod.ext h.1 h.2
 rw [GX,decide_eq_true e,jfe]
theorem jci {B:List Leg} {u:List Bool} {f k:Nat} (h: ((lg B k).bx== (lg B f).ax&& (lg B k).b_y== (lg B f).ay) =false) :false=GX B u f k:=by
 have e:¬lB (lg B k) =lA (lg B f) :=fun e=>by
  rw [show(lg B k).bx= (lg B f).ax from congrArg Prod.fst e,show(lg B k).b_y= (lg B f).ay from congrArg Prod.snd e] at h
  simp at h
 rw [GX,decide_eq_false e,jfp]
def msr (u:List Bool) (a:Option Nat) :Nat:=match a with
 | some _=>WT u+1
 | none=>0
theorem EK {B:List Leg} {f:Nat} {u0 u:List Bool} {k:Nat} {ps:List Pn} (h:RunI B f u0 u k ps) (a:Option Nat) :msr (u.set k true) a<msr u (some k) :=by
 have:=h.pos
 cases a<;>simp only [msr] <;>omega
theorem Xp {B:List Leg} {i:Nat} (h:Gm (Kg B i).1 i=true) :Kg B (i+1) =Kg B i:=by
 rw [Kg,if_pos h]
theorem Nu {B:List Leg} {i:Nat} (h:Gm (Kg B i).1 i=false) :Kg B (i+1) = ((UZ B i (WT (Kg B i).1) (Kg B i).1 i []).1,(Kg B i).2++ [(UZ B i (WT (Kg B i).1) (Kg B i).1 i []).2]) :=by
 rw [Kg,if_neg (by rw [h];simp)]
theorem Dv (A:Option Addr) (n c:Nat) (B:List Leg) (w:World) (h:Legs w A n B) (hB:BoOk B) :
  Calls Tryz.prog 66 #[.slice A n c] w fun e w'=>∃A' c',e= .returned (.slice A' (Wk B).length c')∧OwnG w.heap.size w'.heap.size w' A' (Wk B).length (Wk B)∧Over w w':=by
 have hl:=h.1
 have hn:=hB.len
 rw [hl] at hn
 have hok:=hB.ok
 refine jU (m:=66) (Tryz.func66) J J (lb J) ?_;refine S9 ?_;refine DP J J J vp U6 J (by decide) (by omega) (by omega) (fun b1=> ?_);refine N2 ?_;refine OM 0 1 n (b:=b1) (U:=4) (cs:= (List.replicate n false).map Value.bool) (by rw [←CZ];simp) (by simp) (by omega) ?_;refine ji (by simp only [jeL,jeG,jeM,jeO,jeJ,jeI,Value.cells,jeK];rfl) ?_;refine S3 ?_;refine Jp J J (vr) J (lb J) (fun b2=> ?_);refine vR 1 1 J J ?_;refine N2 ?_;refine vF ?_;refine ji (by simp only [jeL,jeG,jeM,jeO,jeJ,jeI,Value.cells,jeK];rfl) ?_;refine S6 ?_;refine JI (X:=Nat×(Option Addr×Nat)×List Pc) (fun x=>x.1≤n∧x.2.2.map (·.xs) = (Kg B x.1).2) (fun x=>n- x.1) (fun x=> [(4, .slice x.2.1.1 x.2.2.length x.2.1.2),(5, .int .i64 (x.1:Int))]) (kK [0,2,3]) (fun x=> [boR n (Kg B x.1).1 (some ⟨b1,0,none⟩,n),JP (Bs.N ⟨w,[]⟩) 71 1 x.2.2.length (x.2.2.map Pc.val) x.2.1,ve x.2.2]) (0,(some ⟨b2,0,none⟩,0),[]) (⟨jeE _,J⟩) ⟨J,sz⟩ (fun _ h=>by rw [show(Kg B 0).1=List.replicate n false by rw [←hl];rfl];exact h) ?_
 intro⟨i,⟨rA,rc⟩,l⟩ hx L hL1
 refine v9 ?_;refine ji (by first | (dsimp only;done) | (dsimp only;rfl) | rfl) ?_
 obtain ⟨hi,hmp⟩ :i≤n∧l.map (·.xs) = (Kg B i).2:=hx
 have hul: (Kg B i).1.length=n:= (by rw [Y8,hl])
 obtain ⟨tl1,tl2⟩ :=U3 (B:=B) i (by omega)
 have hll:l.length≤4096:= (by have:=congrArg List.length hmp;rw [jeX] at this;omega)
 refine S8 ?_;refine cZ (fun c1=> ?_) (fun c1=> ?_)
 ·have hil:i<n:= (by omega)
  refine S9 ?_;refine a9 (qx (r:= (some ⟨b1,0,none⟩,n)) (j:=i) (fun w hs=> (hs.all 0 _ J).1) J J J vp hil) ?_;refine a9 (jr J J QC (jb3 (r:= (some ⟨b1,0,none⟩,n)) (fun w hs=> (hs.all 0 _ J).1) (by omega))) ?_;refine S1 ?_;refine cZ (fun c2=> ?_) (fun c2=> ?_)
  ·refine S9 ?_
   exact j8 hL1 ((i+1,(rA,rc),l)) (⟨(show i+1≤n by omega),(by rw [Xp c2];exact hmp)⟩) (by simp only;omega) ⟨J,vi (by omega),sz⟩ (fun _ h=>h.upto ⟨by rw [Xp c2],sz⟩)
  ·obtain ⟨u0,hu0⟩ :∃u0,u0= (Kg B i).1:=⟨_,rfl⟩
   have hst:Gm u0 i=false:= (by rw [hu0];exact c2)
   obtain ⟨R,hR⟩ :∃R,R=UZ B i (WT u0) u0 i [] :=⟨_,rfl⟩
   have hnx:Kg B (i+1) = (R.1,(Kg B i).2++ [R.2]) := (by rw [Nu c2,hR,hu0])
   rw [←hu0] at hul⊢
   obtain ⟨_,hRl⟩ :=U3 (B:=B) (i+1) (by omega)
   have hRs:R.2.length≤4096:= (by have:= (hRl R.2 (by rw [hnx];simp)).2.1;omega)
   obtain ⟨eb,eo,rfl,_⟩ :=h.2 (by omega)
   refine S4 ?_;refine a9 (JV J J (wX)) ?_;refine S1 ?_;refine aL (fun b3=> ?_);refine N3 ?_;refine kz (T:=54) (s:=2) ?_;refine ji (by simp only [jeL,jeG,jeM,jeO,jeJ,jeI,Value.cells,jeK];rfl) ?_;refine S5 ?_;refine KZ (X:= (Option Addr×Nat)×Int) (fun x=>True) (fun x=> [(7, .int .i64 x.2)]) (kK [0,2,3,4,5,12,13,14,15,18,19,20,21,22,6,23]) (fun x=> [boR n R.1 (some ⟨b1,0,none⟩,n),JP (Bs.N ⟨w,[]⟩) 71 1 l.length (l.map Pc.val) (rA,rc),ve l, .cel b3 71 [.slice x.1.1 R.2.length x.1.2],JP (Bs.N ⟨w,[]⟩) 54 2 R.2.length (R.2.flatMap j7) x.1]) (fun L h_2=> ?_) ?_
   ·refine S1 ?_;refine JI (X:=List Bool×Option Nat×List Pn×Option Addr×Nat) (fun y=>RunX B i u0 y.1 y.2.1 y.2.2.1∧y.2.2.1.length+WT y.1≤4096) (fun y=>msr y.1 y.2.1) (fun y=> [(7, .int .i64 (Ye y.2.1))]) (kK [0,2,3,4,5,12,13,14,15,18,19,20,21,22,6,23]) (fun y=> [boR n y.1 (some ⟨b1,0,none⟩,n),JP (Bs.N ⟨w,[]⟩) 71 1 l.length (l.map Pc.val) (rA,rc),ve l, .cel b3 71 [.slice y.2.2.2.1 y.2.2.1.length y.2.2.2.2],JP (Bs.N ⟨w,[]⟩) 54 2 y.2.2.1.length (y.2.2.1.flatMap j7) y.2.2.2]) (u0,some i,[],none,0) (⟨RunI.start (by omega) (by omega) hst,(by have:=B8 u0;simp;omega)⟩) ⟨J,sz⟩ (fun _ h=>h) ?_
    intro⟨u,ao,ps,qA,qc⟩ hy L hL2
    refine v9 ?_;refine ji (by first | (dsimp only;done) | (dsimp only;rfl) | rfl) ?_
    obtain ⟨hy1,hy2⟩ :RunX B i u0 u ao ps∧ps.length+WT u≤4096:=hy
    refine S6 ?_;refine cZ (fun c3=> ?_) (fun c3=> ?_)
    ·obtain ⟨k,rfl⟩ :=UF c3
     have hI:RunI B i u0 u k ps:=hy1
     have hkB:=hI.la
     have hun:u.length=n:= (by rw [hI.len,hl])
     have hkn:k<n:= (by omega)
     have hpos:=hI.pos
     refine S6 ?_;refine a9 ((ja J J).as (congrArg _ (show Ye (some k) = ((k:Nat) :Int) from J))) ?_;refine a9 (qx (r:= (some ⟨b1,0,none⟩,n)) (j:=k) (fun w hs=> (hs.all 0 _ J).1) J J J vp hkn) ?_;refine S1 ?_;refine uz (k:=0) (r:= (some ⟨b1,0,none⟩,n)) (vs:= [.bool true]) J J J J (by rfl) (by rfl) U6.szx J J (by simp) (by rw [jeX];simp only [jeP,je6];omega) ?_;refine n9 ?_
     rw [Cw (by omega)]
     refine S3 ?_;refine Jw 8 ?_;refine dV 0 [1] ?_;refine dK 1 ?_;refine dV 2 [4,5,6,7] ?_;refine d9 3 J [4,5,6,7] (u9 J) ((ja J J).as (congrArg _ (show Ye (some k) = ((k:Nat) :Int) from J))) ?_;refine d9 4 J [5,6,7] (u9 J) (jT (j:=k) J J J Jr (by omega)) ?_;refine dV 5 [6,7] ?_;refine d9 6 J [7] (u9 J) (jj J J jl J (Qc (fun w' hs=>h.over hs.fin) hkn)) ?_;refine Jh (i:=7) J (by decide) (by kernel_rfl) J ?_;refine Jp J J (qP J) J (lb J) (fun b4=> ?_);refine n9 ?_;refine jJ (u9 J) ?_;refine K4 J (by kernel_rfl) J ?_;refine JL (k:=4) J jt jO (by decide) J (by decide) J J J (fun w' hs=>q6 hs (k:=5) J J) (by simp [Value.oneCell']) (by unfold maxLen;omega) (by omega) (jeD _) (fun r1=> ?_);refine n9 ?_;refine Q8 11 [3] ?_;refine dK 9 ?_;refine Jh (i:=10) J (by decide) (by kernel_rfl) J ?_;refine S1 ?_;refine jJ (uw [3] J) ?_;refine Jj (by kernel_rfl) ?_;refine S2 ?_;refine qd [(56, .bool (GX B (u.set k true) i k))] (kK [0,2,3,4,5,12,13,14,15,18,19,20,21,22,6,23,7,24,25,26,27,28,29,30,31,32,33,34,35,36,37,38]) (fun L h_12=> ?_) ?_
     ·refine S1 ?_;refine Jw 18 ?_;refine dK 0 ?_;refine dZ 1 J ((ja J J).as (congrArg _ (show Ye (some k) = ((k:Nat) :Int) from J))) ?_;refine dZ 2 J (jT (j:=k) J J J Jr (by omega)) ?_;refine dK 3 ?_;refine dZ 4 J (jj J J jl J (qR (fun w' hs=>h.over hs.fin) hkn)) ?_;refine dK 5 ?_;refine dK 6 ?_;refine dZ 7 J (jT (j:=i) J J J Jr (by omega)) ?_;refine dK 8 ?_;refine dZ 9 J (jj J J jl J (Qc (fun w' hs=>h.over hs.fin) hil)) ?_;refine dK 10 ?_;refine dK 11 ?_;refine cV 50 (fun g1=> ?_) (fun g1=> ?_)
      ·refine eK 12 ?_;refine eK 13 ?_;refine eZ 14 J ((ja J J).as (congrArg _ (show Ye (some k) = ((k:Nat) :Int) from J))) ?_;refine eK 15 ?_;refine eZ 16 J (jH xT J J (fun w1 hs=>On _ n c B (some ⟨b1,0,none⟩,n) (u.set k true) k i w1 (h.over hs.fin) hok (by omega) (hs.all 0 _ J).1 (by rw [jfM];exact hun) hkn hil)) ?_;refine dK 17 ?_;refine Jj (by kernel_rfl) ?_;refine S1 ?_
       exact Jb h_12 ⟨vb (jch g1),sz⟩ (u9 J)
      ·refine fK 12 ?_;refine fK 13 ?_;refine fK 14 ?_;refine fK 15 ?_;refine fK 16 ?_;refine dK 17 ?_;refine Jj (by kernel_rfl) ?_;refine S1 ?_
       exact Jb h_12 ⟨vb (jci g1),sz⟩ (u9 J)
     ·refine v9 ?_;refine cZ (fun c4=> ?_) (fun c4=> ?_)
      ·have hRe:R= (u.set k true,ps++ [lA (lg B k)]) := (by rw [hR];exact hI.stop (P8 c4))
       refine S6 ?_
       exact JZ h_2 ((r1,(k:Int))) (trivial) ⟨J,sz⟩ (fun _ h=> (h.picks [0,1,2,3,4] (by decide)).upto ⟨by rw [hRe],J,J,by rw [hRe,jeC];rfl,by rw [hRe,jeC,jeQ];rfl,trivial⟩)
      ·refine S5 ?_;refine a9 ((ja J J).as (congrArg _ (show Ye (some k) = ((k:Nat) :Int) from J))) ?_;refine a9 (jH y4 J J (fun w1 hs=>GG _ n c B (some ⟨b1,0,none⟩,n) (u.set k true) k w1 (h.over hs.fin) hok (by omega) (hs.all 0 _ J).1 (by rw [jfM];exact hun) hkn)) ?_;refine S4 ?_
       exact j8 hL2 ((u.set k true,xE B (u.set k true) k,ps++ [lA (lg B k)],r1)) (⟨RunX.go hI c4,(by simp only [jeC,jeP,je6];omega)⟩) (EK hI _) ⟨J,sz⟩ (fun _ h=> (h.picks [0,1,2,3,4] (by decide)).upto ⟨J,J,J,by rw [jeC];rfl,by rw [jeC,jeQ];rfl,trivial⟩)
    ·obtain rfl:=UE c3
     have hRe:R= (u,ps) := (by rw [hR];exact hy1.1)
     refine S5 ?_
     exact JZ h_2 (((qA,qc),-1)) (trivial) ⟨J,sz⟩ (fun _ h=> (h.picks [0,1,2,3,4] (by decide)).upto ⟨by rw [hRe],J,J,by rw [hRe],by rw [hRe],trivial⟩)
   ·rintro⟨⟨pA,pc⟩,_⟩ -
    refine v9 ?_;refine ji (by first | (dsimp only;done) | (dsimp only;rfl) | rfl) ?_;refine S4 ?_;refine Jp J J (qz J) J (lb J) (fun b5=> ?_);refine N1 ?_;refine JL (k:=1) J jI Jn (by decide) J (by decide) J J J (fun w' hs=>q6 hs (k:=5) J J) (by simp [Value.oneCell']) (by unfold maxLen;omega) (by omega) (jeD _) (fun r2=> ?_);refine N2 ?_;refine zT 4 J J (fun clo chi=> ?_);refine ji (by simp only [jeL,jeG,jeM,jeO,jeJ,jeI,Value.cells,jeK];rfl) ?_;refine VY 2 4 J J (by decide) J ?_;refine ji (by simp only [jeL,jeG,jeM,jeO,jeJ,jeI,Value.cells,jeK];rfl) ?_;refine S7 ?_
    exact j8 hL1 ((i+1,r2,l++ [⟨R.2,pA,pc,clo,chi⟩])) (⟨(show i+1≤n by omega),(by rw [jfa,hmp,hnx];rfl)⟩) (by simp only;omega) ⟨(by rw [jeC];rfl),vi (by omega),sz⟩ (fun _ h=>h.upto ⟨by rw [hnx],by rw [jeC,jfa];rfl,(vf _ _).symm,trivial⟩)
 ·have hin:i=n:= (by omega)
  have htr:l.map (·.xs) =Wk B:= (by rw [hmp,hin,←hl];rfl)
  have htl: (Wk B).length=l.length:= (by rw [←htr,jeX])
  refine S11 ?_;refine jL J (.tmp J) ?_
  intro w' hs
  exact⟨rA,rc,by rw [htl],by rw [htl];exact UV hs (kr:=1) (kp:=2) rfl rfl (by decide) rfl rfl htr (fun j hj=>by rw [←wl hj];have:= (tl2 _ (by rw [←hmp,htr];exact jeW hj)).2.1;omega),hs.fin⟩
end Go.Proofs.YtkagkgjjfdkoaaaGreat
