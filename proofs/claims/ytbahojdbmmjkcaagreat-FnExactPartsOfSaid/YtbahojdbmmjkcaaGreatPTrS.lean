import Derived.Test.YtbahojdbmmjkcaaGreatPTrP
import Derived.Test.YtbahojdbmmjkcaaGreatPNetS
import Derived.Test.YtbahojdbmmjkcaaGreatPOrder
import Derived.Test.YtbahojdbmmjkcaaGreatPSnapB
set_option linter.unusedVariables false
set_option linter.unusedSimpArgs false
namespace Go.Proofs.YtbahojdbmmjkcaaGreat
open Go Go.RowKit
variable {B:List Leg} {K:Act→World→Prop} {S:Nat→Bool} {b:Option Nat} {cs:List Value} {env:List (Nat×Value)} {f i k n:Nat} {lt:Nat→Nat→Bool} {ps:List Pn} {r:Option Addr×Nat} {u u0:List Bool} {v:Pn}
set_option maxRecDepth 100000
set_option maxHeartbeats 4000000
theorem Bx (o a:Pn) (w:World) :Calls Tryz.prog 283 #[pV o,pV a] w fun e w'=>e= .returned (.int .i64 (UN o a))∧Over w w':=by
 refine jT (m:=24) (Tryz.func283) J J (lb J) ?_;refine S3 ?_;refine aX (fun b1=> ?_);refine N1 ?_;refine aX (fun b2=> ?_);refine N3 ?_;refine qn [(23, .bool (decide (a.2>o.2∨(a.2=o.2∧a.1>o.1))))] (kK [4]) (fun L h_1=> ?_) ?_
 ·refine S7 ?_;refine cV 10 (fun g1=> ?_) (fun g1=> ?_)
  ·refine S14 ?_
   exact Jr h_1 ⟨vb (decide_eq_true (.inl Om)).symm,sz⟩ (u9 J)
  ·refine S12 ?_;refine cV 16 (fun g2=> ?_) (fun g2=> ?_)
   ·refine S14 ?_
    exact Jr h_1 ⟨vb (by rw [jhc,decide_eq_true_iff,decide_eq_true_iff];omega),sz⟩ (u9 J)
   ·refine S9 ?_
    exact Jr h_1 ⟨vb (decide_eq_false Om).symm,sz⟩ (u9 J)
 ·refine v9 ?_;refine cZ (fun c1=> ?_) (fun c1=> ?_)
  ·refine S6 ?_;refine jL J (.tmp J) ?_
   intro w' hs
   exact⟨wm (by rw [UN,if_pos c1]),hs.fin⟩
  ·refine S7 ?_;refine jL J (.tmp J) ?_
   intro w' hs
   exact⟨wm (by rw [UN,if_neg c1]),hs.fin⟩
theorem YX (o a b:Pn) (w:World) (ho:bd2 o) (ha:bd2 a) (hb:bd2 b) :Calls Tryz.prog 280 #[pV o,pV a,pV b] w fun e w'=>e= .returned (.int .i64 (LA o a b))∧Over w w':=by
 have h1:=y8 o a
 have h2:=y8 o b
 have h3:=jfu (tn o a b)
 refine jT (m:=28) (Tryz.func280) J J (lb J) ?_;refine S3 ?_;refine aX (fun b1=> ?_);refine N1 ?_;refine aX (fun b2=> ?_);refine N1 ?_;refine aX (fun b3=> ?_);refine N6 ?_;refine a9 (jJ Yh J J (fun w1 hs=>Bx o a w1)) ?_;refine S6 ?_;refine a9 (jJ Yh J J (fun w1 hs=>Bx o b w1)) ?_;refine S9 ?_;refine cZ (fun c1=> ?_) (fun c1=> ?_)
 ·refine S5 ?_;refine a9 (jJ KF J J (fun w1 hs=>wt _ w1)) ?_;refine S4 ?_;refine jL J (.tmp J) ?_
  intro w' hs
  exact⟨wm (by rw [LA,if_pos c1]),hs.fin⟩
 ·refine S7 ?_;refine a9 (jJ q7 J J (fun w1 hs=>Wz o a b w1 ho ha hb)) ?_;refine a9 (jJ KF J J (fun w1 hs=>wt _ w1)) ?_;refine a9 (za J J Om Om) ?_;refine S3 ?_;refine jL J (.tmp J) ?_
  intro w' hs
  exact⟨wm (by rw [LA,if_neg (by simpa using c1)]),hs.fin⟩
theorem GS (v f p q:Pn) (w:World) (hv:bd2 v) (hf:bd2 f) (hp:bd2 p) (hq:bd2 q) :Calls Tryz.prog 270 #[pV v,pV f,pV p,pV q] w fun e w'=>e= .returned (.bool (Xk v f p q))∧Over w w':=by
 refine jT (m:=30) (Tryz.func270) J J (lb J) ?_;refine S3 ?_;refine aX (fun b1=> ?_);refine N1 ?_;refine aX (fun b2=> ?_);refine N1 ?_;refine aX (fun b3=> ?_);refine N1 ?_;refine aX (fun b4=> ?_);refine N7 ?_;refine a9 (jJ wV J J (fun w1 hs=>YX v p f w1 hv hp hf)) ?_;refine S8 ?_;refine a9 (jJ wV J J (fun w1 hs=>YX v q f w1 hv hq hf)) ?_;refine S8 ?_;refine a9 (FA Ob J J J) ?_;refine S1 ?_;refine cZ (fun c1=> ?_) (fun c1=> ?_)
 ·refine S7 ?_;refine jL J (.tmp J) ?_
  intro w' hs
  exact⟨Qs (by rw [Xk,if_pos c1]),hs.fin⟩
 ·refine S7 ?_;refine a9 (jJ wV J J (fun w1 hs=>YX v p q w1 hv hp hq)) ?_;refine S4 ?_;refine jL J (.tmp J) ?_
  intro w' hs
  exact⟨Qs (by rw [Xk,if_neg (by simpa using c1)]),hs.fin⟩
def Yq:Option Nat→Int
 | none=> -1
 | some m=> (m:Int)
theorem UX (h:0≤Yq b) :∃m,b=some m:=by
 cases b with
 | none=>simp [Yq] at h
 | some m=>exact⟨m,rfl⟩
theorem UW (h:Yq b<0) :b=none:=by
 cases b with
 | none=>rfl
 | some m=>exact absurd (show(m:Int) <0 from h) (jhG.2 (Int.natCast_nonneg m))
abbrev boR (n:Nat) (u:List Bool) (x:Option Addr×Nat) :Res:=JQ 0 4 1 n (u.map Value.bool) x
theorem jeD (h:k<u.length) : (u.map Value.bool)[k]? =some (.bool (Gz u k)) :=by simp [Gz,List.getD,h]
section
variable {w0:Bs} {Rs:List Res}
theorem jdH (hr:∀w,St w0 Rs w→(boR n u r).P w) (h:k<u.length) :∀w,St w0 Rs w→w.cell? ⟨Vl r.1,0+k*1,none⟩ =some (.bool (Gz u k)) :=fun w hs=>by
 rw [jgT,jhn]
 exact zf (hr w hs) (jeD h)
end
theorem jeG (h:Gz u i=true) :true= !(wK B u v i) :=by simp [wK,h]
theorem jeH (h:Gz u i=false) : (!((lg B i).ax==v.1&& (lg B i).ay==v.2)) = !(wK B u v i) :=by
 have e: ((lg B i).ax==v.1&& (lg B i).ay==v.2) =decide (lA (lg B i) =v) :=by
  rw [jhc]
  simp [lA,Prod.ext_iff]
 rw [e,wK,h]
 rfl
theorem jdS (h:S i=false) :VK S lt (i+1) =VK S lt i:=by
 rw [Vz]
 unfold Ll
 cases VK S lt i<;>simp [h]
def Zo (lt:Nat→Nat→Bool) (b:Option Nat) (i:Nat) :Bool:=match b with
 | none=>true
 | some m=>lt i m
theorem CZ (h:S i=true) (ht:Zo lt (VK S lt i) i=true) :VK S lt (i+1) =some i:=by
 rw [Vz]
 unfold Ll
 unfold Zo at ht
 cases e:VK S lt i<;>rw [e] at ht<;>simp_all
theorem CY (h:S i=true) (ht:Zo lt (VK S lt i) i=false) :VK S lt (i+1) =VK S lt i:=by
 rw [Vz]
 unfold Ll
 unfold Zo at ht
 cases e:VK S lt i<;>rw [e] at ht<;>simp_all
theorem ON (hok:∀l∈B,qr l) (h:k<B.length) :bd2 (lA (lg B k))∧bd2 (lB (lg B k)) :=by
 have:=QK hok h
 exact⟨⟨this.1,this.2.1⟩,this.2.2.1,this.2.2.2⟩
theorem GR (A:Option Addr) (n c:Nat) (B:List Leg) (x:Option Addr×Nat) (u:List Bool) (a:Nat) (w:World) (h:Legs w A n B) (hok:∀l∈B,qr l) (hn:n≤1048576) (hu: (boR n u x).P w) (hul:u.length=n) (ha:a<n) :
  Calls Tryz.prog 239 #[.slice A n c, .slice x.1 n x.2, .int .i64 (a:Int)] w fun e w'=>e= .returned (.int .i64 (Yq (xL B u a)))∧Over w w':=by
 have hl:=h.1
 obtain ⟨eb,eo,rfl,_⟩ :=h.2 Om
 obtain ⟨hb1,hb2⟩ :=ON hok (show a<B.length by omega)
 obtain ⟨S,hS⟩ :∃S,S=wK B u (lB (lg B a)) :=⟨_,rfl⟩
 obtain ⟨lt,hlt⟩ :∃lt,lt=ltS B (lB (lg B a)) (lA (lg B a)) :=⟨_,rfl⟩
 refine jT (m:=59) (Tryz.func239) J J (lb J) ?_;refine S8 ?_;refine a9 (jG (j:=a) J J J j5 Om) ?_;refine S1 ?_;refine a9 (jk J J jj J (qO (fun w' hs=>h.over hs.fin) ha)) ?_;refine S1 ?_;refine aL (fun b1=> ?_);refine N7 ?_;refine a9 (jG (j:=a) J J J j5 Om) ?_;refine S1 ?_;refine a9 (jk J J jj J (qZ (fun w' hs=>h.over hs.fin) ha)) ?_;refine S1 ?_;refine aL (fun b2=> ?_);refine N13 ?_;refine J9 (X:=Nat) (fun i=>i≤n) (fun i=>n- i) (fun i=> [(9, .int .i64 (Yq (VK S lt i))),(10, .int .i64 (i:Int))]) (kK [0,1,6,7,8]) 0 (jgw _) ⟨J,sz⟩ ?_
 intro i hi L hL1
 refine V8 ?_;refine cZ (fun c1=> ?_) (fun c1=> ?_)
 ·have hil:i<n:=Om
  obtain ⟨hi1,hi2⟩ :=ON hok (show i<B.length by omega)
  refine S5 ?_;refine qn [(39, .bool (!(S i)))] (kK [0,1,6,7,8,9,10,21,22,23,24]) (fun L h_7=> ?_) ?_
  ·refine S1 ?_;refine JS 13 ?_;refine dK 0 ?_;refine dK 1 ?_;refine dZ 2 J (qj (j:=i) (fun w hs=>Qc hu hs.fin) J J J vh hil) ?_;refine dZ 3 J (jl J J Qv (jdH (fun w hs=>Qc hu hs.fin) Om)) ?_;refine dK 4 ?_;refine cV 31 (fun g1=> ?_) (fun g1=> ?_)
   ·refine fK 5 ?_;refine fK 6 ?_;refine fK 7 ?_;refine fK 8 ?_;refine fK 9 ?_;refine fK 10 ?_;refine fK 11 ?_;refine dK 12 ?_;refine JI Kr ?_;refine S1 ?_
    exact Jr h_7 ⟨vb (by rw [hS];exact jeG g1),sz⟩ (u9 J)
   ·refine eK 5 ?_;refine eK 6 ?_;refine eZ 7 J (jG (j:=i) J J J j5 Om) ?_;refine eK 8 ?_;refine eZ 9 J (jk J J jj J (qZ (fun w' hs=>h.over hs.fin) hil)) ?_;refine eK 10 ?_;refine eK 11 ?_;refine dK 12 ?_;refine JI Kr ?_;refine S1 ?_
    exact Jr h_7 ⟨vb (by rw [hS];exact jeH (v:=lB (lg B a)) g1),sz⟩ (u9 J)
  ·refine v9 ?_;refine cZ (fun c2=> ?_) (fun c2=> ?_)
   ·refine S9 ?_
    exact JY hL1 (i+1) Om Om ⟨vi (by rw [jdS c2]),vi Om,sz⟩ (u9 J)
   ·refine S2 ?_;refine qn [(56, .bool (Zo lt (VK S lt i) i))] (kK [0,1,6,7,8,9,10,21,22,23,24,39]) (fun L h_8=> ?_) ?_
    ·refine S1 ?_;refine JS 17 ?_;refine dK 0 ?_;refine dK 1 ?_;refine dK 2 ?_;refine cV 42 (fun g2=> ?_) (fun g2=> ?_)
     ·refine fK 3 ?_;refine fK 4 ?_;refine fK 5 ?_;refine fK 6 ?_;refine fK 7 ?_;refine fK 8 ?_;refine fK 9 ?_;refine fK 10 ?_;refine fK 11 ?_;refine fK 12 ?_;refine fK 13 ?_;refine fK 14 ?_;refine fK 15 ?_;refine dK 16 ?_;refine JI Kr ?_;refine S1 ?_
      exact Jr h_8 ⟨vb (by rw [UW g2];rfl),sz⟩ (u9 J)
     ·obtain ⟨m,hm⟩ :=UX g2
      have hmi:= (ye hm).1
      obtain ⟨hm1,hm2⟩ :=ON hok (show m<B.length by omega)
      refine eK 3 ?_;refine eK 4 ?_;refine eK 5 ?_;refine eK 6 ?_;refine eZ 7 J (jG (j:=i) J J J j5 Om) ?_;refine eK 8 ?_;refine eZ 9 J (jk J J jj J (qO (fun w' hs=>h.over hs.fin) hil)) ?_;refine eK 10 ?_;refine eZ 11 J ((ja J J).as (congrArg _ (show Yq (VK S lt i) = ((m:Nat) :Int) by rw [hm];rfl))) ?_;refine eZ 12 J (jG (j:=m) J J J j5 Om) ?_;refine eK 13 ?_;refine eZ 14 J (jk J J jj J (qO (j:=m) (fun w' hs=>h.over hs.fin) Om)) ?_;refine eZ 15 J (jJ Uq J J (fun w1 hs=>GS (lB (lg B a)) (lA (lg B a)) (lB (lg B i)) (lB (lg B m)) w1 hb2 hb1 hi2 hm2)) ?_;refine dK 16 ?_;refine JI Kr ?_;refine S1 ?_
      exact Jr h_8 ⟨vb (by rw [hm,hlt];rfl),sz⟩ (u9 J)
    ·refine v9 ?_;refine cZ (fun c3=> ?_) (fun c3=> ?_)
     ·refine S11 ?_
      exact JY hL1 (i+1) Om Om ⟨vi (by rw [CZ c2 c3];rfl),vi Om,sz⟩ (u9 J)
     ·refine S8 ?_
      exact JY hL1 (i+1) Om Om ⟨vi (by rw [CY c2 c3]),vi Om,sz⟩ (u9 J)
 ·have hin:i=n:=Om
  refine S11 ?_;refine jL J (.tmp J) ?_
  intro w' hs
  exact⟨wm (by rw [hin,←hl,hS,hlt];rfl),hs.fin⟩
theorem OL (A:Option Addr) (n c:Nat) (B:List Leg) (x:Option Addr×Nat) (u:List Bool) (a f:Nat) (w:World) (h:Legs w A n B) (hok:∀l∈B,qr l) (hn:n≤1048576) (hu: (boR n u x).P w) (hul:u.length=n) (ha:a<n) (hf:f<n) :
  Calls Tryz.prog 238 #[.slice A n c, .slice x.1 n x.2, .int .i64 (a:Int), .int .i64 (f:Int)] w fun e w'=>e= .returned (.bool (YK B u a f))∧Over w w':=by
 have hl:=h.1
 obtain ⟨eb,eo,rfl,_⟩ :=h.2 Om
 obtain ⟨hb1,hb2⟩ :=ON hok (show a<B.length by omega)
 obtain ⟨hf1,hf2⟩ :=ON hok (show f<B.length by omega)
 refine jT (m:=37) (Tryz.func238) J J (lb J) ?_;refine S9 ?_;refine a9 (jJ Yl J J (fun w1 hs=>GR _ n c B x u a w1 (h.over hs.fin) hok hn (Qc hu hs.fin) hul ha)) ?_;refine S8 ?_;refine cZ (fun c1=> ?_) (fun c1=> ?_)
 ·refine S6 ?_;refine jL J (.tmp J) ?_
  intro w' hs
  exact⟨Qs (by rw [YK,UW c1]),hs.fin⟩
 ·obtain ⟨m,hm⟩ :=UX c1
  have hmi:= (ye hm).1
  obtain ⟨hm1,hm2⟩ :=ON hok (show m<B.length by omega)
  rw [hm]
  refine S4 ?_;refine JS 22 ?_;refine dK 0 ?_;refine dK 1 ?_;refine dZ 2 J (jG (j:=a) J J J j5 Om) ?_;refine dK 3 ?_;refine dZ 4 J (jk J J jj J (qO (fun w' hs=>h.over hs.fin) ha)) ?_;refine dK 5 ?_;refine dK 6 ?_;refine dZ 7 J (jG (j:=a) J J J j5 Om) ?_;refine dK 8 ?_;refine dZ 9 J (jk J J jj J (qZ (fun w' hs=>h.over hs.fin) ha)) ?_;refine dK 10 ?_;refine dK 11 ?_;refine dZ 12 J (jG (j:=f) J J J j5 Om) ?_;refine dK 13 ?_;refine dZ 14 J (jk J J jj J (qO (fun w' hs=>h.over hs.fin) hf)) ?_;refine dK 15 ?_;refine dZ 16 J ((ja J J).as (congrArg _ (show Yq (some m) = ((m:Nat) :Int) from J))) ?_;refine dZ 17 J (jG (j:=m) J J J j5 Om) ?_;refine dK 18 ?_;refine dZ 19 J (jk J J jj J (qO (j:=m) (fun w' hs=>h.over hs.fin) Om)) ?_;refine dZ 20 J (jJ Uq J J (fun w1 hs=>GS (lB (lg B a)) (lA (lg B a)) (lB (lg B f)) (lB (lg B m)) w1 hb2 hb1 hf2 hm2)) ?_;refine dK 21 ?_;refine JI Kr ?_;refine S2 ?_;refine jL J (.tmp J) ?_
  intro w' hs
  exact⟨Qs (by rw [YK,hm];rfl),hs.fin⟩
theorem O8 {w0:Bs} {Rs:List Res} (k s m:Nat) {b U:Nat} (hk:Rs[k]? =some (.cel b U cs)) (hl:cs.length=m*s) (hm:m≤1048576) (h:At n env w0 (Rs.set k (.row 0 U s (.slice (some ⟨b,0,none⟩) m m) m cs)) K) :At n env w0 Rs K:=fun a w hf hs=>by
 refine h a w hf (hs.chg hk (fun hP=> ?_) (fun c hc=> ?_) J)
 ·have hP:w.heap[b]? =some (.cells cs.toArray U (0,0)) :=hP
  exact⟨hl, .inr ⟨b,m,cs.toArray,rfl,jgw _,hP,jgx _,by unfold maxLen;omega,by simpa using hl,by rw [←hl];simp⟩⟩
 ·have:some b=some c:=hc
  injection this with this
  exact this.symm
theorem jae (n:Nat) : (madeCells #[Value.bool false] n).toList= (List.replicate n false).map Value.bool:=by
 refine jhH (by simp [madeCells]) fun k h1 h2=> ?_
 simp [madeCells,Nat.mod_one]
theorem EG (h:k<u.length) :qB (u.map Value.bool) (0+k*1) [.bool true] = (u.set k true).map Value.bool:=by
 rw [jgT,jhn,qB,qB,List.map_set]
structure BoOk (B:List Leg) :Prop where
 ok:∀l∈B,qr l
 len:B.length≤4096
def G4 (B:List Leg) (u:List Bool) (f a:Nat) :Bool:=decide (lB (lg B a) =lA (lg B f)) &&YK B u a f
theorem Ef {a:Nat} (h:G4 B u f a=true) :Zm B u f a=none:=if_pos h
theorem jd2 {a:Nat} (h:G4 B u f a=false) :Zm B u f a=xL B u a:=if_neg (by rw [show(decide (lB (lg B a) =lA (lg B f)) &&YK B u a f) =false from h];simp)
def RunX (B:List Leg) (f:Nat) (u0 u:List Bool) (a:Option Nat) (ps:List Pn) :Prop:=match a with
 | some k=>RunI B f u0 u k ps
 | none=>yd B f (WT u0) u0 f [] = (u,ps)∧u.length=B.length
theorem RunX.go (h:RunI B f u0 u k ps) (hz:G4 B (u.set k true) f k=false) :RunX B f u0 (u.set k true) (xL B (u.set k true) k) (ps++ [lA (lg B k)]) :=by
 have hs:=jd2 hz
 cases e:xL B (u.set k true) k with
 | none=>exact⟨h.stop (by rw [hs,e]),by rw [jhy];exact h.len⟩
 | some m=>exact h.more (by rw [hs,e])
theorem jd0 (h: ((lg B k).bx== (lg B f).ax&& (lg B k).b_y== (lg B f).ay) =true) :YK B u k f=G4 B u f k:=by
 simp only [jgy,beq_iff_eq] at h
 have e:lB (lg B k) =lA (lg B f) :=Prod.ext h.1 h.2
 rw [G4,decide_eq_true e,jg2]
theorem jd1 (h: ((lg B k).bx== (lg B f).ax&& (lg B k).b_y== (lg B f).ay) =false) :false=G4 B u f k:=by
 have e:¬lB (lg B k) =lA (lg B f) :=fun e=>by
  rw [show(lg B k).bx= (lg B f).ax from congrArg Prod.fst e,show(lg B k).b_y= (lg B f).ay from congrArg Prod.snd e] at h
  simp at h
 rw [G4,decide_eq_false e,jhd]
def msr (u:List Bool) (a:Option Nat) :Nat:=match a with
 | some _=>WT u+1
 | none=>0
theorem ja9 (h:RunI B f u0 u k ps) (a:Option Nat) :msr (u.set k true) a<msr u (some k) :=by
 have:=h.pos
 cases a<;>simp only [msr] <;>omega
theorem Xr (h:Gz (Kg B i).1 i=true) :Kg B (i+1) =Kg B i:=by
 rw [Kg,if_pos h]
theorem PL (h:Gz (Kg B i).1 i=false) :Kg B (i+1) = ((yd B i (WT (Kg B i).1) (Kg B i).1 i []).1,(Kg B i).2++ [(yd B i (WT (Kg B i).1) (Kg B i).1 i []).2]) :=by
 rw [Kg,if_neg (by rw [h];simp)]
theorem D3 (A:Option Addr) (n c:Nat) (B:List Leg) (w:World) (h:Legs w A n B) (hB:BoOk B) :
  Calls Tryz.prog 189 #[.slice A n c] w fun e w'=>∃A' c',e= .returned (.slice A' (Wb B).length c')∧OwnG w.heap.size w'.heap.size w' A' (Wb B).length (Wb B)∧Over w w':=by
 have hl:=h.1
 have hn:=hB.len
 rw [hl] at hn
 have hok:=hB.ok
 refine jT (m:=66) (Tryz.func189) J J (lb J) ?_;refine S9 ?_;refine Ft J J J vh yk J Dc Om Om (fun b1=> ?_);refine N2 ?_;refine O8 0 1 n (b:=b1) (U:=4) (cs:= (List.replicate n false).map Value.bool) (by rw [←jae];simp) (by simp) Om ?_;refine t9 ?_;refine S3 ?_;refine Jw J J (wa) J (lb J) (fun b2=> ?_);refine vK 1 1 J J ?_;refine N2 ?_;refine vu ?_;refine t9 ?_;refine S6 ?_;refine JN (X:=Nat×(Option Addr×Nat)×List Pc) (fun x=>x.1≤n∧x.2.2.map (·.xs) = (Kg B x.1).2) (fun x=>n- x.1) (fun x=> [(4, .slice x.2.1.1 x.2.2.length x.2.1.2),(5, .int .i64 (x.1:Int))]) (kK [0,2,3]) (fun x=> [boR n (Kg B x.1).1 (some ⟨b1,0,none⟩,n),JQ (Bs.N ⟨w,[]⟩) 74 1 x.2.2.length (x.2.2.map Pc.val) x.2.1,ke x.2.2]) (0,(some ⟨b2,0,none⟩,0),[]) (⟨jgw _,J⟩) ⟨J,sz⟩ (fun _ h=>by rw [show(Kg B 0).1=List.replicate n false by rw [←hl];rfl];exact h) ?_
 intro⟨i,⟨rA,rc⟩,l⟩ hx L hL1
 refine v9 ?_;refine r9 ?_
 obtain ⟨hi,hmp⟩ :i≤n∧l.map (·.xs) = (Kg B i).2:=hx
 have hul: (Kg B i).1.length=n:= (by rw [zp,hl])
 obtain ⟨tl1,tl2⟩ :=yh (B:=B) i Om
 have hll:l.length≤4096:= (by have:=congrArg List.length hmp;rw [jgF] at this;omega)
 refine S8 ?_;refine cZ (fun c1=> ?_) (fun c1=> ?_)
 ·have hil:i<n:=Om
  refine S9 ?_;refine a9 (qj (r:= (some ⟨b1,0,none⟩,n)) (j:=i) (fun w hs=> (hs.all 0 _ J).1) J J J vh hil) ?_;refine a9 (jl J J Qv (jdH (r:= (some ⟨b1,0,none⟩,n)) (fun w hs=> (hs.all 0 _ J).1) Om)) ?_;refine S1 ?_;refine cZ (fun c2=> ?_) (fun c2=> ?_)
  ·refine S9 ?_
   exact j4 hL1 ((i+1,(rA,rc),l)) (⟨(show i+1≤n by omega),(by rw [Xr c2];exact hmp)⟩) (by simp only;omega) ⟨J,vi Om,sz⟩ (fun _ h=>h.upto ⟨by rw [Xr c2],sz⟩)
  ·obtain ⟨u0,hu0⟩ :∃u0,u0= (Kg B i).1:=⟨_,rfl⟩
   have hst:Gz u0 i=false:= (by rw [hu0];exact c2)
   obtain ⟨R,hR⟩ :∃R,R=yd B i (WT u0) u0 i [] :=⟨_,rfl⟩
   have hnx:Kg B (i+1) = (R.1,(Kg B i).2++ [R.2]) := (by rw [PL c2,hR,hu0])
   rw [←hu0] at hul⊢
   obtain ⟨_,hRl⟩ :=yh (B:=B) (i+1) Om
   have hRs:R.2.length≤4096:= (by have:= (hRl R.2 (by rw [hnx];simp)).2.1;omega)
   obtain ⟨eb,eo,rfl,_⟩ :=h.2 Om
   refine S4 ?_;refine a9 (J0 J J (wI)) ?_;refine S1 ?_;refine aL (fun b3=> ?_);refine N3 ?_;refine kh (T:=28) (s:=2) ?_;refine t9 ?_;refine S5 ?_;refine Ug (X:= (Option Addr×Nat)×Int) (fun x=>True) (fun x=> [(7, .int .i64 x.2)]) (kK [0,2,3,4,5,12,13,14,15,18,19,20,21,22,6,23]) (fun x=> [boR n R.1 (some ⟨b1,0,none⟩,n),JQ (Bs.N ⟨w,[]⟩) 74 1 l.length (l.map Pc.val) (rA,rc),ke l, .cel b3 74 [.slice x.1.1 R.2.length x.1.2],JQ (Bs.N ⟨w,[]⟩) 28 2 R.2.length (R.2.flatMap Ju) x.1]) (fun L h_2=> ?_) ?_
   ·refine S1 ?_;refine JN (X:=List Bool×Option Nat×List Pn×Option Addr×Nat) (fun y=>RunX B i u0 y.1 y.2.1 y.2.2.1∧y.2.2.1.length+WT y.1≤4096) (fun y=>msr y.1 y.2.1) (fun y=> [(7, .int .i64 (Yq y.2.1))]) (kK [0,2,3,4,5,12,13,14,15,18,19,20,21,22,6,23]) (fun y=> [boR n y.1 (some ⟨b1,0,none⟩,n),JQ (Bs.N ⟨w,[]⟩) 74 1 l.length (l.map Pc.val) (rA,rc),ke l, .cel b3 74 [.slice y.2.2.2.1 y.2.2.1.length y.2.2.2.2],JQ (Bs.N ⟨w,[]⟩) 28 2 y.2.2.1.length (y.2.2.1.flatMap Ju) y.2.2.2]) (u0,some i,[],none,0) (⟨RunI.start Om Om hst,(by have:=DD u0;simp;omega)⟩) ⟨J,sz⟩ (fun _ h=>h) ?_
    intro⟨u,ao,ps,qA,qc⟩ hy L hL2
    refine v9 ?_;refine r9 ?_
    obtain ⟨hy1,hy2⟩ :RunX B i u0 u ao ps∧ps.length+WT u≤4096:=hy
    refine S6 ?_;refine cZ (fun c3=> ?_) (fun c3=> ?_)
    ·obtain ⟨k,rfl⟩ :=UX c3
     have hI:RunI B i u0 u k ps:=hy1
     have hkB:=hI.la
     have hun:u.length=n:= (by rw [hI.len,hl])
     have hkn:k<n:=Om
     have hpos:=hI.pos
     refine S6 ?_;refine a9 ((ja J J).as (congrArg _ (show Yq (some k) = ((k:Nat) :Int) from J))) ?_;refine a9 (qj (r:= (some ⟨b1,0,none⟩,n)) (j:=k) (fun w hs=> (hs.all 0 _ J).1) J J J vh hkn) ?_;refine S1 ?_;refine WE (k:=0) (r:= (some ⟨b1,0,none⟩,n)) (vs:= [.bool true]) J J J J (by rfl) (by rfl) yk.szx J J (by simp) (by rw [jgF];simp only [jgD,jgY];omega) ?_;refine n9 ?_
     rw [EG Om]
     refine S3 ?_;refine JS 8 ?_;refine dV 0 [1] ?_;refine dK 1 ?_;refine dV 2 [4,5,6,7] ?_;refine d9 3 J [4,5,6,7] (u9 J) ((ja J J).as (congrArg _ (show Yq (some k) = ((k:Nat) :Int) from J))) ?_;refine d9 4 J [5,6,7] (u9 J) (jG (j:=k) J J J j5 Om) ?_;refine dV 5 [6,7] ?_;refine d9 6 J [7] (u9 J) (jk J J jj J (qZ (fun w' hs=>h.over hs.fin) hkn)) ?_;refine J8 (i:=7) J Dc Kr J ?_;refine Jw J J (qX J) J (lb J) (fun b4=> ?_);refine n9 ?_;refine JU (u9 J) ?_;refine KB J Kr J ?_;refine JV (k:=4) J jB jH Dc J Dc J J J (fun w' hs=>qR hs (k:=5) J J) (by simp [Value.oneCell']) (by unfold maxLen;omega) Om (jgx _) (fun r1=> ?_);refine n9 ?_;refine QH 11 [3] ?_;refine dK 9 ?_;refine J8 (i:=10) J Dc Kr J ?_;refine S1 ?_;refine JU (uw [3] J) ?_;refine JI Kr ?_;refine S2 ?_;refine qn [(56, .bool (G4 B (u.set k true) i k))] (kK [0,2,3,4,5,12,13,14,15,18,19,20,21,22,6,23,7,24,25,26,27,28,29,30,31,32,33,34,35,36,37,38]) (fun L h_12=> ?_) ?_
     ·refine S1 ?_;refine JS 18 ?_;refine dK 0 ?_;refine dZ 1 J ((ja J J).as (congrArg _ (show Yq (some k) = ((k:Nat) :Int) from J))) ?_;refine dZ 2 J (jG (j:=k) J J J j5 Om) ?_;refine dK 3 ?_;refine dZ 4 J (jk J J jj J (qO (fun w' hs=>h.over hs.fin) hkn)) ?_;refine dK 5 ?_;refine dK 6 ?_;refine dZ 7 J (jG (j:=i) J J J j5 Om) ?_;refine dK 8 ?_;refine dZ 9 J (jk J J jj J (qZ (fun w' hs=>h.over hs.fin) hil)) ?_;refine dK 10 ?_;refine dK 11 ?_;refine cV 50 (fun g1=> ?_) (fun g1=> ?_)
      ·refine eK 12 ?_;refine eK 13 ?_;refine eZ 14 J ((ja J J).as (congrArg _ (show Yq (some k) = ((k:Nat) :Int) from J))) ?_;refine eK 15 ?_;refine eZ 16 J (jJ x5 J J (fun w1 hs=>OL _ n c B (some ⟨b1,0,none⟩,n) (u.set k true) k i w1 (h.over hs.fin) hok Om (hs.all 0 _ J).1 (by rw [jhy];exact hun) hkn hil)) ?_;refine dK 17 ?_;refine JI Kr ?_;refine S1 ?_
       exact Jr h_12 ⟨vb (jd0 g1),sz⟩ (u9 J)
      ·refine fK 12 ?_;refine fK 13 ?_;refine fK 14 ?_;refine fK 15 ?_;refine fK 16 ?_;refine dK 17 ?_;refine JI Kr ?_;refine S1 ?_
       exact Jr h_12 ⟨vb (jd1 g1),sz⟩ (u9 J)
     ·refine v9 ?_;refine cZ (fun c4=> ?_) (fun c4=> ?_)
      ·have hRe:R= (u.set k true,ps++ [lA (lg B k)]) := (by rw [hR];exact hI.stop (Ef c4))
       refine S6 ?_
       exact ky h_2 ((r1,(k:Int))) (trivial) ⟨J,sz⟩ (fun _ h=> (h.picks [0,1,2,3,4] Dc).upto ⟨by rw [hRe],J,J,by rw [hRe,jgv];rfl,by rw [hRe,jgv,jgG];rfl,trivial⟩)
      ·refine S5 ?_;refine a9 ((ja J J).as (congrArg _ (show Yq (some k) = ((k:Nat) :Int) from J))) ?_;refine a9 (jJ Yl J J (fun w1 hs=>GR _ n c B (some ⟨b1,0,none⟩,n) (u.set k true) k w1 (h.over hs.fin) hok Om (hs.all 0 _ J).1 (by rw [jhy];exact hun) hkn)) ?_;refine S4 ?_
       exact j4 hL2 ((u.set k true,xL B (u.set k true) k,ps++ [lA (lg B k)],r1)) (⟨RunX.go hI c4,(by simp only [jgv,jgD,jgY];omega)⟩) (ja9 hI _) ⟨J,sz⟩ (fun _ h=> (h.picks [0,1,2,3,4] Dc).upto ⟨J,J,J,by rw [jgv];rfl,by rw [jgv,jgG];rfl,trivial⟩)
    ·obtain rfl:=UW c3
     have hRe:R= (u,ps) := (by rw [hR];exact hy1.1)
     refine S5 ?_
     exact ky h_2 (((qA,qc),-1)) (trivial) ⟨J,sz⟩ (fun _ h=> (h.picks [0,1,2,3,4] Dc).upto ⟨by rw [hRe],J,J,by rw [hRe],by rw [hRe],trivial⟩)
   ·rintro⟨⟨pA,pc⟩,_⟩ -
    refine v9 ?_;refine r9 ?_;refine S4 ?_;refine Jw J J (qp J) J (lb J) (fun b5=> ?_);refine N1 ?_;refine JV (k:=1) J jw Js Dc J Dc J J J (fun w' hs=>qR hs (k:=5) J J) (by simp [Value.oneCell']) (by unfold maxLen;omega) Om (jgx _) (fun r2=> ?_);refine N2 ?_;refine y4 4 J J (fun clo chi=> ?_);refine t9 ?_;refine KU 2 4 J J Dc J ?_;refine t9 ?_;refine S7 ?_
    exact j4 hL1 ((i+1,r2,l++ [⟨R.2,pA,pc,clo,chi⟩])) (⟨(show i+1≤n by omega),(by rw [jgS,hmp,hnx];rfl)⟩) (by simp only;omega) ⟨(by rw [jgv];rfl),vi Om,sz⟩ (fun _ h=>h.upto ⟨by rw [hnx],by rw [jgv,jgS];rfl,(K9 _ _).symm,trivial⟩)
 ·have hin:i=n:=Om
  have htr:l.map (·.xs) =Wb B:= (by rw [hmp,hin,←hl];rfl)
  have htl: (Wb B).length=l.length:= (by rw [←htr,jgF])
  refine S11 ?_;refine jL J (.tmp J) ?_
  intro w' hs
  exact⟨rA,rc,by rw [htl],by rw [htl];exact ya hs (kr:=1) (kp:=2) rfl rfl Dc rfl rfl htr (fun j hj=>by rw [←Vm hj];have:= (tl2 _ (by rw [←hmp,htr];exact jgH hj)).2.1;omega),hs.fin⟩
end Go.Proofs.YtbahojdbmmjkcaaGreat
