import Derived.Test.YtbahojdbmmjkcaaGreatSTrP
import Derived.Test.YtbahojdbmmjkcaaGreatSNetS
import Derived.Test.YtbahojdbmmjkcaaGreatSOrder
import Derived.Test.YtbahojdbmmjkcaaGreatSSnapB
set_option linter.unusedVariables false
set_option linter.unusedSimpArgs false
namespace Go.Proofs.YtbahojdbmmjkcaaGreat
open Go Go.RowKit
variable {B:List Leg} {K:Act→World→Prop} {S:Nat→Bool} {b:Option Nat} {cs:List Value} {env:List (Nat×Value)} {f i k n:Nat} {lt:Nat→Nat→Bool} {ps:List Pn} {r:Option Addr×Nat} {u u0:List Bool} {v:Pn}
set_option maxRecDepth 100000
set_option maxHeartbeats 4000000
theorem D1 (o a:Pn) (w:World) :Calls Tryz.prog 283 #[pV o,pV a] w fun e w'=>e= .returned (.int .i64 (U2 o a))∧Over w w':=by
 refine jK (m:=24) (Tryz.func283) J J (lb J) ?_;refine S3 ?_;refine aX (fun b1=> ?_);refine N1 ?_;refine aX (fun b2=> ?_);refine N3 ?_;refine qr [(23, .bool (decide (a.2>o.2∨(a.2=o.2∧a.1>o.1))))] (kK [4]) (fun L h_1=> ?_) ?_
 ·refine S7 ?_;refine cV 10 (fun g1=> ?_) (fun g1=> ?_)
  ·refine S14 ?_
   exact Js h_1 ⟨vb (decide_eq_true (.inl Om)).symm,sz⟩ (u9 J)
  ·refine S12 ?_;refine cV 16 (fun g2=> ?_) (fun g2=> ?_)
   ·refine S14 ?_
    exact Js h_1 ⟨vb (by rw [jiK,decide_eq_true_iff,decide_eq_true_iff];omega),sz⟩ (u9 J)
   ·refine S9 ?_
    exact Js h_1 ⟨vb (decide_eq_false Om).symm,sz⟩ (u9 J)
 ·refine v9 ?_;refine cZ (fun c1=> ?_) (fun c1=> ?_)
  ·refine S6 ?_;refine jJ J (.tmp J) ?_
   intro w' hs
   exact⟨ux (by rw [U2,if_pos c1]),hs.fin⟩
  ·refine S7 ?_;refine jJ J (.tmp J) ?_
   intro w' hs
   exact⟨ux (by rw [U2,if_neg c1]),hs.fin⟩
theorem zq (o a b:Pn) (w:World) (ho:bd2 o) (ha:bd2 a) (hb:bd2 b) :Calls Tryz.prog 280 #[pV o,pV a,pV b] w fun e w'=>e= .returned (.int .i64 (Mr o a b))∧Over w w':=by
 have h1:=Ys o a
 have h2:=Ys o b
 have h3:=jg5 (tn o a b)
 refine jK (m:=28) (Tryz.func280) J J (lb J) ?_;refine S3 ?_;refine aX (fun b1=> ?_);refine N1 ?_;refine aX (fun b2=> ?_);refine N1 ?_;refine aX (fun b3=> ?_);refine N6 ?_;refine a9 (jG YA J J (fun w1 hs=>D1 o a w1)) ?_;refine S6 ?_;refine a9 (jG YA J J (fun w1 hs=>D1 o b w1)) ?_;refine S9 ?_;refine cZ (fun c1=> ?_) (fun c1=> ?_)
 ·refine S5 ?_;refine a9 (jG KX J J (fun w1 hs=>wN _ w1)) ?_;refine S4 ?_;refine jJ J (.tmp J) ?_
  intro w' hs
  exact⟨ux (by rw [Mr,if_pos c1]),hs.fin⟩
 ·refine S7 ?_;refine a9 (jG Qu J J (fun w1 hs=>WV o a b w1 ho ha hb)) ?_;refine a9 (jG KX J J (fun w1 hs=>wN _ w1)) ?_;refine a9 (uv J J Om Om) ?_;refine S3 ?_;refine jJ J (.tmp J) ?_
  intro w' hs
  exact⟨ux (by rw [Mr,if_neg (by simpa using c1)]),hs.fin⟩
theorem HU (v f p q:Pn) (w:World) (hv:bd2 v) (hf:bd2 f) (hp:bd2 p) (hq:bd2 q) :Calls Tryz.prog 270 #[pV v,pV f,pV p,pV q] w fun e w'=>e= .returned (.bool (XW v f p q))∧Over w w':=by
 refine jK (m:=30) (Tryz.func270) J J (lb J) ?_;refine S3 ?_;refine aX (fun b1=> ?_);refine N1 ?_;refine aX (fun b2=> ?_);refine N1 ?_;refine aX (fun b3=> ?_);refine N1 ?_;refine aX (fun b4=> ?_);refine N7 ?_;refine a9 (jG Wn J J (fun w1 hs=>zq v p f w1 hv hp hf)) ?_;refine S8 ?_;refine a9 (jG Wn J J (fun w1 hs=>zq v q f w1 hv hq hf)) ?_;refine S8 ?_;refine a9 (IV Bw J J J) ?_;refine S1 ?_;refine cZ (fun c1=> ?_) (fun c1=> ?_)
 ·refine S7 ?_;refine jJ J (.tmp J) ?_
  intro w' hs
  exact⟨QH (by rw [XW,if_pos c1]),hs.fin⟩
 ·refine S7 ?_;refine a9 (jG Wn J J (fun w1 hs=>zq v p q w1 hv hp hq)) ?_;refine S4 ?_;refine jJ J (.tmp J) ?_
  intro w' hs
  exact⟨QH (by rw [XW,if_neg (by simpa using c1)]),hs.fin⟩
def YL:Option Nat→Int
 | none=> -1
 | some m=> (m:Int)
theorem yd (h:0≤YL b) :∃m,b=some m:=by
 cases b with
 | none=>simp [YL] at h
 | some m=>exact⟨m,rfl⟩
theorem yc (h:YL b<0) :b=none:=by
 cases b with
 | none=>rfl
 | some m=>exact absurd (show(m:Int) <0 from h) (jjn.2 (Int.natCast_nonneg m))
abbrev boR (n:Nat) (u:List Bool) (x:Option Addr×Nat) :Res:=JS 0 4 1 n (u.map Value.bool) x
theorem jga (h:k<u.length) : (u.map Value.bool)[k]? =some (.bool (Hu u k)) :=by simp [Hu,List.getD,h]
section
variable {w0:Bs} {Rs:List Res}
theorem je8 (hr:∀w,St w0 Rs w→(boR n u r).P w) (h:k<u.length) :∀w,St w0 Rs w→w.cell? ⟨VW r.1,0+k*1,none⟩ =some (.bool (Hu u k)) :=fun w hs=>by
 rw [jiB,jja]
 exact zW (hr w hs) (jga h)
end
theorem jgd (h:Hu u i=true) :true= !(We B u v i) :=by simp [We,h]
theorem jge (h:Hu u i=false) : (!((lg B i).ax==v.1&& (lg B i).ay==v.2)) = !(We B u v i) :=by
 have e: ((lg B i).ax==v.1&& (lg B i).ay==v.2) =decide (lA (lg B i) =v) :=by
  rw [jiK]
  simp [lA,Prod.ext_iff]
 rw [e,We,h]
 rfl
theorem jfg (h:S i=false) :VV S lt (i+1) =VV S lt i:=by
 rw [VL]
 unfold Mb
 cases VV S lt i<;>simp [h]
def Z1 (lt:Nat→Nat→Bool) (b:Option Nat) (i:Nat) :Bool:=match b with
 | none=>true
 | some m=>lt i m
theorem jaT (h:S i=true) (ht:Z1 lt (VV S lt i) i=true) :VV S lt (i+1) =some i:=by
 rw [VL]
 unfold Mb
 unfold Z1 at ht
 cases e:VV S lt i<;>rw [e] at ht<;>simp_all
theorem jaS (h:S i=true) (ht:Z1 lt (VV S lt i) i=false) :VV S lt (i+1) =VV S lt i:=by
 rw [VL]
 unfold Mb
 unfold Z1 at ht
 cases e:VV S lt i<;>rw [e] at ht<;>simp_all
theorem Dd (hok:∀l∈B,qU l) (h:k<B.length) :bd2 (lA (lg B k))∧bd2 (lB (lg B k)) :=by
 have:=kk hok h
 exact⟨⟨this.1,this.2.1⟩,this.2.2.1,this.2.2.2⟩
theorem HT (A:Option Addr) (n c:Nat) (B:List Leg) (x:Option Addr×Nat) (u:List Bool) (a:Nat) (w:World) (h:Legs w A n B) (hok:∀l∈B,qU l) (hn:n≤1048576) (hu: (boR n u x).P w) (hul:u.length=n) (ha:a<n) :
  Calls Tryz.prog 239 #[.slice A n c, .slice x.1 n x.2, .int .i64 (a:Int)] w fun e w'=>e= .returned (.int .i64 (YL (Xr B u a)))∧Over w w':=by
 have hl:=h.1
 obtain ⟨eb,eo,rfl,_⟩ :=h.2 Om
 obtain ⟨hb1,hb2⟩ :=Dd hok (show a<B.length by omega)
 obtain ⟨S,hS⟩ :∃S,S=We B u (lB (lg B a)) :=⟨_,rfl⟩
 obtain ⟨lt,hlt⟩ :∃lt,lt=ltS B (lB (lg B a)) (lA (lg B a)) :=⟨_,rfl⟩
 refine jK (m:=59) (Tryz.func239) J J (lb J) ?_;refine S8 ?_;refine a9 (jH (j:=a) J J J Ju Om) ?_;refine S1 ?_;refine a9 (jk J J jj J (Qa (fun w' hs=>h.over hs.fin) ha)) ?_;refine S1 ?_;refine aL (fun b1=> ?_);refine N7 ?_;refine a9 (jH (j:=a) J J J Ju Om) ?_;refine S1 ?_;refine a9 (jk J J jj J (Qq (fun w' hs=>h.over hs.fin) ha)) ?_;refine S1 ?_;refine aL (fun b2=> ?_);refine N13 ?_;refine qj (X:=Nat) (fun i=>i≤n) (fun i=>n- i) (fun i=> [(9, .int .i64 (YL (VV S lt i))),(10, .int .i64 (i:Int))]) (kK [0,1,6,7,8]) 0 (jie _) ⟨J,sz⟩ ?_
 intro i hi L hL1
 refine V8 ?_;refine cZ (fun c1=> ?_) (fun c1=> ?_)
 ·have hil:i<n:=Om
  obtain ⟨hi1,hi2⟩ :=Dd hok (show i<B.length by omega)
  refine S5 ?_;refine qr [(39, .bool (!(S i)))] (kK [0,1,6,7,8,9,10,21,22,23,24]) (fun L h_7=> ?_) ?_
  ·refine S1 ?_;refine JH 13 ?_;refine dK 0 ?_;refine dK 1 ?_;refine dZ 2 J (qM (j:=i) (fun w hs=>Qn hu hs.fin) J J J vC hil) ?_;refine dZ 3 J (jq J J QV (je8 (fun w hs=>Qn hu hs.fin) Om)) ?_;refine dK 4 ?_;refine cV 31 (fun g1=> ?_) (fun g1=> ?_)
   ·refine fK 5 ?_;refine fK 6 ?_;refine fK 7 ?_;refine fK 8 ?_;refine fK 9 ?_;refine fK 10 ?_;refine fK 11 ?_;refine dK 12 ?_;refine JB Kr ?_;refine S1 ?_
    exact Js h_7 ⟨vb (by rw [hS];exact jgd g1),sz⟩ (u9 J)
   ·refine eK 5 ?_;refine eK 6 ?_;refine eZ 7 J (jH (j:=i) J J J Ju Om) ?_;refine eK 8 ?_;refine eZ 9 J (jk J J jj J (Qq (fun w' hs=>h.over hs.fin) hil)) ?_;refine eK 10 ?_;refine eK 11 ?_;refine dK 12 ?_;refine JB Kr ?_;refine S1 ?_
    exact Js h_7 ⟨vb (by rw [hS];exact jge (v:=lB (lg B a)) g1),sz⟩ (u9 J)
  ·refine v9 ?_;refine cZ (fun c2=> ?_) (fun c2=> ?_)
   ·refine S9 ?_
    exact qa hL1 (i+1) Om Om ⟨vi (by rw [jfg c2]),vi Om,sz⟩ (u9 J)
   ·refine S2 ?_;refine qr [(56, .bool (Z1 lt (VV S lt i) i))] (kK [0,1,6,7,8,9,10,21,22,23,24,39]) (fun L h_8=> ?_) ?_
    ·refine S1 ?_;refine JH 17 ?_;refine dK 0 ?_;refine dK 1 ?_;refine dK 2 ?_;refine cV 42 (fun g2=> ?_) (fun g2=> ?_)
     ·refine fK 3 ?_;refine fK 4 ?_;refine fK 5 ?_;refine fK 6 ?_;refine fK 7 ?_;refine fK 8 ?_;refine fK 9 ?_;refine fK 10 ?_;refine fK 11 ?_;refine fK 12 ?_;refine fK 13 ?_;refine fK 14 ?_;refine fK 15 ?_;refine dK 16 ?_;refine JB Kr ?_;refine S1 ?_
      exact Js h_8 ⟨vb (by rw [yc g2];rfl),sz⟩ (u9 J)
     ·obtain ⟨m,hm⟩ :=yd g2
      have hmi:= (yE hm).1
      obtain ⟨hm1,hm2⟩ :=Dd hok (show m<B.length by omega)
      refine eK 3 ?_;refine eK 4 ?_;refine eK 5 ?_;refine eK 6 ?_;refine eZ 7 J (jH (j:=i) J J J Ju Om) ?_;refine eK 8 ?_;refine eZ 9 J (jk J J jj J (Qa (fun w' hs=>h.over hs.fin) hil)) ?_;refine eK 10 ?_;refine eZ 11 J ((ja J J).as (congrArg _ (show YL (VV S lt i) = ((m:Nat) :Int) by rw [hm];rfl))) ?_;refine eZ 12 J (jH (j:=m) J J J Ju Om) ?_;refine eK 13 ?_;refine eZ 14 J (jk J J jj J (Qa (j:=m) (fun w' hs=>h.over hs.fin) Om)) ?_;refine eZ 15 J (jG UJ J J (fun w1 hs=>HU (lB (lg B a)) (lA (lg B a)) (lB (lg B i)) (lB (lg B m)) w1 hb2 hb1 hi2 hm2)) ?_;refine dK 16 ?_;refine JB Kr ?_;refine S1 ?_
      exact Js h_8 ⟨vb (by rw [hm,hlt];rfl),sz⟩ (u9 J)
    ·refine v9 ?_;refine cZ (fun c3=> ?_) (fun c3=> ?_)
     ·refine S11 ?_
      exact qa hL1 (i+1) Om Om ⟨vi (by rw [jaT c2 c3];rfl),vi Om,sz⟩ (u9 J)
     ·refine S8 ?_
      exact qa hL1 (i+1) Om Om ⟨vi (by rw [jaS c2 c3]),vi Om,sz⟩ (u9 J)
 ·have hin:i=n:=Om
  refine S11 ?_;refine jJ J (.tmp J) ?_
  intro w' hs
  exact⟨ux (by rw [hin,←hl,hS,hlt];rfl),hs.fin⟩
theorem Da (A:Option Addr) (n c:Nat) (B:List Leg) (x:Option Addr×Nat) (u:List Bool) (a f:Nat) (w:World) (h:Legs w A n B) (hok:∀l∈B,qU l) (hn:n≤1048576) (hu: (boR n u x).P w) (hul:u.length=n) (ha:a<n) (hf:f<n) :
  Calls Tryz.prog 238 #[.slice A n c, .slice x.1 n x.2, .int .i64 (a:Int), .int .i64 (f:Int)] w fun e w'=>e= .returned (.bool (Y8 B u a f))∧Over w w':=by
 have hl:=h.1
 obtain ⟨eb,eo,rfl,_⟩ :=h.2 Om
 obtain ⟨hb1,hb2⟩ :=Dd hok (show a<B.length by omega)
 obtain ⟨hf1,hf2⟩ :=Dd hok (show f<B.length by omega)
 refine jK (m:=37) (Tryz.func238) J J (lb J) ?_;refine S9 ?_;refine a9 (jG YG J J (fun w1 hs=>HT _ n c B x u a w1 (h.over hs.fin) hok hn (Qn hu hs.fin) hul ha)) ?_;refine S8 ?_;refine cZ (fun c1=> ?_) (fun c1=> ?_)
 ·refine S6 ?_;refine jJ J (.tmp J) ?_
  intro w' hs
  exact⟨QH (by rw [Y8,yc c1]),hs.fin⟩
 ·obtain ⟨m,hm⟩ :=yd c1
  have hmi:= (yE hm).1
  obtain ⟨hm1,hm2⟩ :=Dd hok (show m<B.length by omega)
  rw [hm]
  refine S4 ?_;refine JH 22 ?_;refine dK 0 ?_;refine dK 1 ?_;refine dZ 2 J (jH (j:=a) J J J Ju Om) ?_;refine dK 3 ?_;refine dZ 4 J (jk J J jj J (Qa (fun w' hs=>h.over hs.fin) ha)) ?_;refine dK 5 ?_;refine dK 6 ?_;refine dZ 7 J (jH (j:=a) J J J Ju Om) ?_;refine dK 8 ?_;refine dZ 9 J (jk J J jj J (Qq (fun w' hs=>h.over hs.fin) ha)) ?_;refine dK 10 ?_;refine dK 11 ?_;refine dZ 12 J (jH (j:=f) J J J Ju Om) ?_;refine dK 13 ?_;refine dZ 14 J (jk J J jj J (Qa (fun w' hs=>h.over hs.fin) hf)) ?_;refine dK 15 ?_;refine dZ 16 J ((ja J J).as (congrArg _ (show YL (some m) = ((m:Nat) :Int) from J))) ?_;refine dZ 17 J (jH (j:=m) J J J Ju Om) ?_;refine dK 18 ?_;refine dZ 19 J (jk J J jj J (Qa (j:=m) (fun w' hs=>h.over hs.fin) Om)) ?_;refine dZ 20 J (jG UJ J J (fun w1 hs=>HU (lB (lg B a)) (lA (lg B a)) (lB (lg B f)) (lB (lg B m)) w1 hb2 hb1 hf2 hm2)) ?_;refine dK 21 ?_;refine JB Kr ?_;refine S2 ?_;refine jJ J (.tmp J) ?_
  intro w' hs
  exact⟨QH (by rw [Y8,hm];rfl),hs.fin⟩
theorem DB {w0:Bs} {Rs:List Res} (k s m:Nat) {b U:Nat} (hk:Rs[k]? =some (.cel b U cs)) (hl:cs.length=m*s) (hm:m≤1048576) (h:At n env w0 (Rs.set k (.row 0 U s (.slice (some ⟨b,0,none⟩) m m) m cs)) K) :At n env w0 Rs K:=fun a w hf hs=>by
 refine h a w hf (hs.chg hk (fun hP=> ?_) (fun c hc=> ?_) J)
 ·have hP:w.heap[b]? =some (.cells cs.toArray U (0,0)) :=hP
  exact⟨hl, .inr ⟨b,m,cs.toArray,rfl,jie _,hP,jif _,by unfold maxLen;omega,by simpa using hl,by rw [←hl];simp⟩⟩
 ·have:some b=some c:=hc
  injection this with this
  exact this.symm
theorem jbV (n:Nat) : (madeCells #[Value.bool false] n).toList= (List.replicate n false).map Value.bool:=by
 refine jjp (by simp [madeCells]) fun k h1 h2=> ?_
 simp [madeCells,Nat.mod_one]
theorem jbv (h:k<u.length) :qL (u.map Value.bool) (0+k*1) [.bool true] = (u.set k true).map Value.bool:=by
 rw [jiB,jja,qL,qL,List.map_set]
structure BoOk (B:List Leg) :Prop where
 ok:∀l∈B,qU l
 len:B.length≤4096
def Lc (B:List Leg) (u:List Bool) (f a:Nat) :Bool:=decide (lB (lg B a) =lA (lg B f)) &&Y8 B u a f
theorem ja8 {a:Nat} (h:Lc B u f a=true) :Z0 B u f a=none:=if_pos h
theorem jfq {a:Nat} (h:Lc B u f a=false) :Z0 B u f a=Xr B u a:=if_neg (by rw [show(decide (lB (lg B a) =lA (lg B f)) &&Y8 B u a f) =false from h];simp)
def RunX (B:List Leg) (f:Nat) (u0 u:List Bool) (a:Option Nat) (ps:List Pn) :Prop:=match a with
 | some k=>RunI B f u0 u k ps
 | none=>yD B f (ud u0) u0 f [] = (u,ps)∧u.length=B.length
theorem RunX.go (h:RunI B f u0 u k ps) (hz:Lc B (u.set k true) f k=false) :RunX B f u0 (u.set k true) (Xr B (u.set k true) k) (ps++ [lA (lg B k)]) :=by
 have hs:=jfq hz
 cases e:Xr B (u.set k true) k with
 | none=>exact⟨h.stop (by rw [hs,e]),by rw [jjf];exact h.len⟩
 | some m=>exact h.more (by rw [hs,e])
theorem jfo (h: ((lg B k).bx== (lg B f).ax&& (lg B k).b_y== (lg B f).ay) =true) :Y8 B u k f=Lc B u f k:=by
 simp only [jig,beq_iff_eq] at h
 have e:lB (lg B k) =lA (lg B f) :=Prod.ext h.1 h.2
 rw [Lc,decide_eq_true e,jiJ]
theorem jfp (h: ((lg B k).bx== (lg B f).ax&& (lg B k).b_y== (lg B f).ay) =false) :false=Lc B u f k:=by
 have e:¬lB (lg B k) =lA (lg B f) :=fun e=>by
  rw [show(lg B k).bx= (lg B f).ax from congrArg Prod.fst e,show(lg B k).b_y= (lg B f).ay from congrArg Prod.snd e] at h
  simp at h
 rw [Lc,decide_eq_false e,jiS]
def msr (u:List Bool) (a:Option Nat) :Nat:=match a with
 | some _=>ud u+1
 | none=>0
theorem jcI (h:RunI B f u0 u k ps) (a:Option Nat) :msr (u.set k true) a<msr u (some k) :=by
 have:=h.pos
 cases a<;>simp only [msr] <;>omega
theorem X4 (h:Hu (Kz B i).1 i=true) :Kz B (i+1) =Kz B i:=by
 rw [Kz,if_pos h]
theorem Ev (h:Hu (Kz B i).1 i=false) :Kz B (i+1) = ((yD B i (ud (Kz B i).1) (Kz B i).1 i []).1,(Kz B i).2++ [(yD B i (ud (Kz B i).1) (Kz B i).1 i []).2]) :=by
 rw [Kz,if_neg (by rw [h];simp)]
theorem Ir (A:Option Addr) (n c:Nat) (B:List Leg) (w:World) (h:Legs w A n B) (hB:BoOk B) :
  Calls Tryz.prog 189 #[.slice A n c] w fun e w'=>∃A' c',e= .returned (.slice A' (Wx B).length c')∧OwnG w.heap.size w'.heap.size w' A' (Wx B).length (Wx B)∧Over w w':=by
 have hl:=h.1
 have hn:=hB.len
 rw [hl] at hn
 have hok:=hB.ok
 refine jK (m:=66) (Tryz.func189) J J (lb J) ?_;refine S9 ?_;refine IQ J J J vC yK J Dc Om Om (fun b1=> ?_);refine N2 ?_;refine DB 0 1 n (b:=b1) (U:=4) (cs:= (List.replicate n false).map Value.bool) (by rw [←jbV];simp) (by simp) Om ?_;refine t9 ?_;refine S3 ?_;refine jX J J (wu) J (lb J) (fun b2=> ?_);refine KQ 1 1 J J ?_;refine N2 ?_;refine Vl ?_;refine t9 ?_;refine S6 ?_;refine JE (X:=Nat×(Option Addr×Nat)×List Pc) (fun x=>x.1≤n∧x.2.2.map (·.xs) = (Kz B x.1).2) (fun x=>n- x.1) (fun x=> [(4, .slice x.2.1.1 x.2.2.length x.2.1.2),(5, .int .i64 (x.1:Int))]) (kK [0,2,3]) (fun x=> [boR n (Kz B x.1).1 (some ⟨b1,0,none⟩,n),JS (Bs.N ⟨w,[]⟩) 74 1 x.2.2.length (x.2.2.map Pc.val) x.2.1,vu x.2.2]) (0,(some ⟨b2,0,none⟩,0),[]) (⟨jie _,J⟩) ⟨J,sz⟩ (fun _ h=>by rw [show(Kz B 0).1=List.replicate n false by rw [←hl];rfl];exact h) ?_
 intro⟨i,⟨rA,rc⟩,l⟩ hx L hL1
 refine v9 ?_;refine r9 ?_
 obtain ⟨hi,hmp⟩ :i≤n∧l.map (·.xs) = (Kz B i).2:=hx
 have hul: (Kz B i).1.length=n:= (by rw [Zf,hl])
 obtain ⟨tl1,tl2⟩ :=yH (B:=B) i Om
 have hll:l.length≤4096:= (by have:=congrArg List.length hmp;rw [jip] at this;omega)
 refine S8 ?_;refine cZ (fun c1=> ?_) (fun c1=> ?_)
 ·have hil:i<n:=Om
  refine S9 ?_;refine a9 (qM (r:= (some ⟨b1,0,none⟩,n)) (j:=i) (fun w hs=> (hs.all 0 _ J).1) J J J vC hil) ?_;refine a9 (jq J J QV (je8 (r:= (some ⟨b1,0,none⟩,n)) (fun w hs=> (hs.all 0 _ J).1) Om)) ?_;refine S1 ?_;refine cZ (fun c2=> ?_) (fun c2=> ?_)
  ·refine S9 ?_
   exact Jd hL1 ((i+1,(rA,rc),l)) (⟨(show i+1≤n by omega),(by rw [X4 c2];exact hmp)⟩) (by simp only;omega) ⟨J,vi Om,sz⟩ (fun _ h=>h.upto ⟨by rw [X4 c2],sz⟩)
  ·obtain ⟨u0,hu0⟩ :∃u0,u0= (Kz B i).1:=⟨_,rfl⟩
   have hst:Hu u0 i=false:= (by rw [hu0];exact c2)
   obtain ⟨R,hR⟩ :∃R,R=yD B i (ud u0) u0 i [] :=⟨_,rfl⟩
   have hnx:Kz B (i+1) = (R.1,(Kz B i).2++ [R.2]) := (by rw [Ev c2,hR,hu0])
   rw [←hu0] at hul⊢
   obtain ⟨_,hRl⟩ :=yH (B:=B) (i+1) Om
   have hRs:R.2.length≤4096:= (by have:= (hRl R.2 (by rw [hnx];simp)).2.1;omega)
   obtain ⟨eb,eo,rfl,_⟩ :=h.2 Om
   refine S4 ?_;refine a9 (JF J J (Wd)) ?_;refine S1 ?_;refine aL (fun b3=> ?_);refine N3 ?_;refine Q7 (T:=28) (s:=2) ?_;refine t9 ?_;refine S5 ?_;refine Uz (X:= (Option Addr×Nat)×Int) (fun x=>True) (fun x=> [(7, .int .i64 x.2)]) (kK [0,2,3,4,5,12,13,14,15,18,19,20,21,22,6,23]) (fun x=> [boR n R.1 (some ⟨b1,0,none⟩,n),JS (Bs.N ⟨w,[]⟩) 74 1 l.length (l.map Pc.val) (rA,rc),vu l, .cel b3 74 [.slice x.1.1 R.2.length x.1.2],JS (Bs.N ⟨w,[]⟩) 28 2 R.2.length (R.2.flatMap jV) x.1]) (fun L h_2=> ?_) ?_
   ·refine S1 ?_;refine JE (X:=List Bool×Option Nat×List Pn×Option Addr×Nat) (fun y=>RunX B i u0 y.1 y.2.1 y.2.2.1∧y.2.2.1.length+ud y.1≤4096) (fun y=>msr y.1 y.2.1) (fun y=> [(7, .int .i64 (YL y.2.1))]) (kK [0,2,3,4,5,12,13,14,15,18,19,20,21,22,6,23]) (fun y=> [boR n y.1 (some ⟨b1,0,none⟩,n),JS (Bs.N ⟨w,[]⟩) 74 1 l.length (l.map Pc.val) (rA,rc),vu l, .cel b3 74 [.slice y.2.2.2.1 y.2.2.1.length y.2.2.2.2],JS (Bs.N ⟨w,[]⟩) 28 2 y.2.2.1.length (y.2.2.1.flatMap jV) y.2.2.2]) (u0,some i,[],none,0) (⟨RunI.start Om Om hst,(by have:=FY u0;simp;omega)⟩) ⟨J,sz⟩ (fun _ h=>h) ?_
    intro⟨u,ao,ps,qA,qc⟩ hy L hL2
    refine v9 ?_;refine r9 ?_
    obtain ⟨hy1,hy2⟩ :RunX B i u0 u ao ps∧ps.length+ud u≤4096:=hy
    refine S6 ?_;refine cZ (fun c3=> ?_) (fun c3=> ?_)
    ·obtain ⟨k,rfl⟩ :=yd c3
     have hI:RunI B i u0 u k ps:=hy1
     have hkB:=hI.la
     have hun:u.length=n:= (by rw [hI.len,hl])
     have hkn:k<n:=Om
     have hpos:=hI.pos
     refine S6 ?_;refine a9 ((ja J J).as (congrArg _ (show YL (some k) = ((k:Nat) :Int) from J))) ?_;refine a9 (qM (r:= (some ⟨b1,0,none⟩,n)) (j:=k) (fun w hs=> (hs.all 0 _ J).1) J J J vC hkn) ?_;refine S1 ?_;refine Ud (k:=0) (r:= (some ⟨b1,0,none⟩,n)) (vs:= [.bool true]) J J J J (by rfl) (by rfl) yK.szx J J (by simp) (by rw [jip];simp only [jij,jiw];omega) ?_;refine n9 ?_
     rw [jbv Om]
     refine S3 ?_;refine JH 8 ?_;refine dV 0 [1] ?_;refine dK 1 ?_;refine dV 2 [4,5,6,7] ?_;refine d9 3 J [4,5,6,7] (u9 J) ((ja J J).as (congrArg _ (show YL (some k) = ((k:Nat) :Int) from J))) ?_;refine d9 4 J [5,6,7] (u9 J) (jH (j:=k) J J J Ju Om) ?_;refine dV 5 [6,7] ?_;refine d9 6 J [7] (u9 J) (jk J J jj J (Qq (fun w' hs=>h.over hs.fin) hkn)) ?_;refine qd (i:=7) J Dc Kr J ?_;refine jX J J (J9 J) J (lb J) (fun b4=> ?_);refine n9 ?_;refine JU (u9 J) ?_;refine kN J Kr J ?_;refine JK (k:=4) J jl jD Dc J Dc J J J (fun w' hs=>qD hs (k:=5) J J) (by simp [Value.oneCell']) (by unfold maxLen;omega) Om (jif _) (fun r1=> ?_);refine n9 ?_;refine Q0 11 [3] ?_;refine dK 9 ?_;refine qd (i:=10) J Dc Kr J ?_;refine S1 ?_;refine JU (uw [3] J) ?_;refine JB Kr ?_;refine S2 ?_;refine qr [(56, .bool (Lc B (u.set k true) i k))] (kK [0,2,3,4,5,12,13,14,15,18,19,20,21,22,6,23,7,24,25,26,27,28,29,30,31,32,33,34,35,36,37,38]) (fun L h_12=> ?_) ?_
     ·refine S1 ?_;refine JH 18 ?_;refine dK 0 ?_;refine dZ 1 J ((ja J J).as (congrArg _ (show YL (some k) = ((k:Nat) :Int) from J))) ?_;refine dZ 2 J (jH (j:=k) J J J Ju Om) ?_;refine dK 3 ?_;refine dZ 4 J (jk J J jj J (Qa (fun w' hs=>h.over hs.fin) hkn)) ?_;refine dK 5 ?_;refine dK 6 ?_;refine dZ 7 J (jH (j:=i) J J J Ju Om) ?_;refine dK 8 ?_;refine dZ 9 J (jk J J jj J (Qq (fun w' hs=>h.over hs.fin) hil)) ?_;refine dK 10 ?_;refine dK 11 ?_;refine cV 50 (fun g1=> ?_) (fun g1=> ?_)
      ·refine eK 12 ?_;refine eK 13 ?_;refine eZ 14 J ((ja J J).as (congrArg _ (show YL (some k) = ((k:Nat) :Int) from J))) ?_;refine eK 15 ?_;refine eZ 16 J (jG XE J J (fun w1 hs=>Da _ n c B (some ⟨b1,0,none⟩,n) (u.set k true) k i w1 (h.over hs.fin) hok Om (hs.all 0 _ J).1 (by rw [jjf];exact hun) hkn hil)) ?_;refine dK 17 ?_;refine JB Kr ?_;refine S1 ?_
       exact Js h_12 ⟨vb (jfo g1),sz⟩ (u9 J)
      ·refine fK 12 ?_;refine fK 13 ?_;refine fK 14 ?_;refine fK 15 ?_;refine fK 16 ?_;refine dK 17 ?_;refine JB Kr ?_;refine S1 ?_
       exact Js h_12 ⟨vb (jfp g1),sz⟩ (u9 J)
     ·refine v9 ?_;refine cZ (fun c4=> ?_) (fun c4=> ?_)
      ·have hRe:R= (u.set k true,ps++ [lA (lg B k)]) := (by rw [hR];exact hI.stop (ja8 c4))
       refine S6 ?_
       exact Ka h_2 ((r1,(k:Int))) (trivial) ⟨J,sz⟩ (fun _ h=> (h.picks [0,1,2,3,4] Dc).upto ⟨by rw [hRe],J,J,by rw [hRe,jid];rfl,by rw [hRe,jid,jii];rfl,trivial⟩)
      ·refine S5 ?_;refine a9 ((ja J J).as (congrArg _ (show YL (some k) = ((k:Nat) :Int) from J))) ?_;refine a9 (jG YG J J (fun w1 hs=>HT _ n c B (some ⟨b1,0,none⟩,n) (u.set k true) k w1 (h.over hs.fin) hok Om (hs.all 0 _ J).1 (by rw [jjf];exact hun) hkn)) ?_;refine S4 ?_
       exact Jd hL2 ((u.set k true,Xr B (u.set k true) k,ps++ [lA (lg B k)],r1)) (⟨RunX.go hI c4,(by simp only [jid,jij,jiw];omega)⟩) (jcI hI _) ⟨J,sz⟩ (fun _ h=> (h.picks [0,1,2,3,4] Dc).upto ⟨J,J,J,by rw [jid];rfl,by rw [jid,jii];rfl,trivial⟩)
    ·obtain rfl:=yc c3
     have hRe:R= (u,ps) := (by rw [hR];exact hy1.1)
     refine S5 ?_
     exact Ka h_2 (((qA,qc),-1)) (trivial) ⟨J,sz⟩ (fun _ h=> (h.picks [0,1,2,3,4] Dc).upto ⟨by rw [hRe],J,J,by rw [hRe],by rw [hRe],trivial⟩)
   ·rintro⟨⟨pA,pc⟩,_⟩ -
    refine v9 ?_;refine r9 ?_;refine S4 ?_;refine jX J J (qN J) J (lb J) (fun b5=> ?_);refine N1 ?_;refine JK (k:=1) J jS JA Dc J Dc J J J (fun w' hs=>qD hs (k:=5) J J) (by simp [Value.oneCell']) (by unfold maxLen;omega) Om (jif _) (fun r2=> ?_);refine N2 ?_;refine ZM 4 J J (fun clo chi=> ?_);refine t9 ?_;refine Wb 2 4 J J Dc J ?_;refine t9 ?_;refine S7 ?_
    exact Jd hL1 ((i+1,r2,l++ [⟨R.2,pA,pc,clo,chi⟩])) (⟨(show i+1≤n by omega),(by rw [jiG,hmp,hnx];rfl)⟩) (by simp only;omega) ⟨(by rw [jid];rfl),vi Om,sz⟩ (fun _ h=>h.upto ⟨by rw [hnx],by rw [jid,jiG];rfl,(vZ _ _).symm,trivial⟩)
 ·have hin:i=n:=Om
  have htr:l.map (·.xs) =Wx B:= (by rw [hmp,hin,←hl];rfl)
  have htl: (Wx B).length=l.length:= (by rw [←htr,jip])
  refine S11 ?_;refine jJ J (.tmp J) ?_
  intro w' hs
  exact⟨rA,rc,by rw [htl],by rw [htl];exact yv hs (kr:=1) (kp:=2) rfl rfl Dc rfl rfl htr (fun j hj=>by rw [←Wc hj];have:= (tl2 _ (by rw [←hmp,htr];exact jir hj)).2.1;omega),hs.fin⟩
end Go.Proofs.YtbahojdbmmjkcaaGreat
