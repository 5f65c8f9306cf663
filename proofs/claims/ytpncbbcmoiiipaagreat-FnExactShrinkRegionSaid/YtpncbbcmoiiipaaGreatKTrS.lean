import Derived.Test.YtpncbbcmoiiipaaGreatKTrP
import Derived.Test.YtpncbbcmoiiipaaGreatKNetS
import Derived.Test.YtpncbbcmoiiipaaGreatKOrder
import Derived.Test.YtpncbbcmoiiipaaGreatKSnapB
set_option linter.unusedVariables false
set_option linter.unusedSimpArgs false
namespace Go.Proofs.YtpncbbcmoiiipaaGreat
open Go Go.RowKit
set_option maxRecDepth 100000
set_option maxHeartbeats 4000000
theorem DE (o a:Pn) (w:World) :Calls Tryz.prog 291 #[pV o,pV a] w fun e w'=>e= .returned (.int .i64 (yz o a))∧Over w w':=by
 refine Jh (m:=24) (Tryz.func291) J J (lb J) ?_;refine S3 ?_;refine aX (fun b1=> ?_);refine N1 ?_;refine aX (fun b2=> ?_);refine N3 ?_;refine qt [(23, .bool (decide (a.2>o.2∨(a.2=o.2∧a.1>o.1))))] (kK [4]) (fun L h_1=> ?_) ?_
 ·refine S7 ?_;refine cV 10 (fun g1=> ?_) (fun g1=> ?_)
  ·refine S14 ?_
   exact Jk h_1 ⟨vb (decide_eq_true (.inl Om)).symm,sz⟩ (u9 J)
  ·refine S12 ?_;refine cV 16 (fun g2=> ?_) (fun g2=> ?_)
   ·refine S14 ?_
    exact Jk h_1 ⟨vb (by rw [jiN,decide_eq_true_iff,decide_eq_true_iff];omega),sz⟩ (u9 J)
   ·refine S9 ?_
    exact Jk h_1 ⟨vb (decide_eq_false Om).symm,sz⟩ (u9 J)
 ·refine v9 ?_;refine cZ (fun c1=> ?_) (fun c1=> ?_)
  ·refine S6 ?_;refine jM J (.tmp J) ?_
   intro w' hs
   exact⟨YF (by rw [yz,if_pos c1]),hs.fin⟩
  ·refine S7 ?_;refine jM J (.tmp J) ?_
   intro w' hs
   exact⟨YF (by rw [yz,if_neg c1]),hs.fin⟩
theorem zU (o a b:Pn) (w:World) (ho:bd2 o) (ha:bd2 a) (hb:bd2 b) :Calls Tryz.prog 271 #[pV o,pV a,pV b] w fun e w'=>e= .returned (.int .i64 (ME o a b))∧Over w w':=by
 have h1:=YW o a
 have h2:=YW o b
 have h3:=jg5 (tn o a b)
 refine Jh (m:=28) (Tryz.func271) J J (lb J) ?_;refine S3 ?_;refine aX (fun b1=> ?_);refine N1 ?_;refine aX (fun b2=> ?_);refine N1 ?_;refine aX (fun b3=> ?_);refine N6 ?_;refine a9 (jT Y2 J J (fun w1 hs=>DE o a w1)) ?_;refine S6 ?_;refine a9 (jT Y2 J J (fun w1 hs=>DE o b w1)) ?_;refine S9 ?_;refine cZ (fun c1=> ?_) (fun c1=> ?_)
 ·refine S5 ?_;refine a9 (jT vm J J (fun w1 hs=>Wp _ w1)) ?_;refine S4 ?_;refine jM J (.tmp J) ?_
  intro w' hs
  exact⟨YF (by rw [ME,if_pos c1]),hs.fin⟩
 ·refine S7 ?_;refine a9 (jT Qj J J (fun w1 hs=>un o a b w1 ho ha hb)) ?_;refine a9 (jT vm J J (fun w1 hs=>Wp _ w1)) ?_;refine a9 (YD J J Om Om) ?_;refine S3 ?_;refine jM J (.tmp J) ?_
  intro w' hs
  exact⟨YF (by rw [ME,if_neg (by simpa using c1)]),hs.fin⟩
theorem La (v f p q:Pn) (w:World) (hv:bd2 v) (hf:bd2 f) (hp:bd2 p) (hq:bd2 q) :Calls Tryz.prog 244 #[pV v,pV f,pV p,pV q] w fun e w'=>e= .returned (.bool (Ga v f p q))∧Over w w':=by
 refine Jh (m:=30) (Tryz.func244) J J (lb J) ?_;refine S3 ?_;refine aX (fun b1=> ?_);refine N1 ?_;refine aX (fun b2=> ?_);refine N1 ?_;refine aX (fun b3=> ?_);refine N1 ?_;refine aX (fun b4=> ?_);refine N7 ?_;refine a9 (jT WM J J (fun w1 hs=>zU v p f w1 hv hp hf)) ?_;refine S8 ?_;refine a9 (jT WM J J (fun w1 hs=>zU v q f w1 hv hq hf)) ?_;refine S8 ?_;refine a9 (Iq Bh J J J) ?_;refine S1 ?_;refine cZ (fun c1=> ?_) (fun c1=> ?_)
 ·refine S7 ?_;refine jM J (.tmp J) ?_
  intro w' hs
  exact⟨QH (by rw [Ga,if_pos c1]),hs.fin⟩
 ·refine S7 ?_;refine a9 (jT WM J J (fun w1 hs=>zU v p q w1 hv hp hq)) ?_;refine S4 ?_;refine jM J (.tmp J) ?_
  intro w' hs
  exact⟨QH (by rw [Ga,if_neg (by simpa using c1)]),hs.fin⟩
def ze:Option Nat→Int
 | none=> -1
 | some m=> (m:Int)
theorem yH {b:Option Nat} (h:0≤ze b) :∃m,b=some m:=by
 cases b with
 | none=>simp [ze] at h
 | some m=>exact⟨m,rfl⟩
theorem yG {b:Option Nat} (h:ze b<0) :b=none:=by
 cases b with
 | none=>rfl
 | some m=>exact absurd (show(m:Int) <0 from h) (jjr.2 (Int.natCast_nonneg m))
abbrev boR (n:Nat) (u:List Bool) (x:Option Addr×Nat) :Res:=JY 0 4 1 n (u.map Value.bool) x
theorem jgd {u:List Bool} {k:Nat} (h:k<u.length) : (u.map Value.bool)[k]? =some (.bool (yw u k)) :=by simp [yw,List.getD,h]
section
variable {w0:Bs} {Rs:List Res}
theorem jfg {n:Nat} {u:List Bool} {r:Option Addr×Nat} {k:Nat} (hr:∀w,St w0 Rs w→(boR n u r).P w) (h:k<u.length) :∀w,St w0 Rs w→w.cell? ⟨W3 r.1,0+k*1,none⟩ =some (.bool (yw u k)) :=fun w hs=>by
 rw [jiL,jjf]
 exact X5 (hr w hs) (jgd h)
end
theorem jgg {B:List Leg} {u:List Bool} {v:Pn} {i:Nat} (h:yw u i=true) :true= !(wD B u v i) :=by simp [wD,h]
theorem jgh {B:List Leg} {u:List Bool} {v:Pn} {i:Nat} (h:yw u i=false) : (!((lg B i).ax==v.1&& (lg B i).ay==v.2)) = !(wD B u v i) :=by
 have e: ((lg B i).ax==v.1&& (lg B i).ay==v.2) =decide (lA (lg B i) =v) :=by
  rw [jiN]
  simp [lA,Prod.ext_iff]
 rw [e,wD,h]
 rfl
theorem jfn {S:Nat→Bool} {lt:Nat→Nat→Bool} {i:Nat} (h:S i=false) :VY S lt (i+1) =VY S lt i:=by
 rw [Vz]
 unfold Ls
 cases VY S lt i<;>simp [h]
def Z8 (lt:Nat→Nat→Bool) (b:Option Nat) (i:Nat) :Bool:=match b with
 | none=>true
 | some m=>lt i m
theorem jap {S:Nat→Bool} {lt:Nat→Nat→Bool} {i:Nat} (h:S i=true) (ht:Z8 lt (VY S lt i) i=true) :VY S lt (i+1) =some i:=by
 rw [Vz]
 unfold Ls
 unfold Z8 at ht
 cases e:VY S lt i<;>rw [e] at ht<;>simp_all
theorem jao {S:Nat→Bool} {lt:Nat→Nat→Bool} {i:Nat} (h:S i=true) (ht:Z8 lt (VY S lt i) i=false) :VY S lt (i+1) =VY S lt i:=by
 rw [Vz]
 unfold Ls
 unfold Z8 at ht
 cases e:VY S lt i<;>rw [e] at ht<;>simp_all
theorem BS {B:List Leg} (hok:∀l∈B,qN l) {k:Nat} (h:k<B.length) :bd2 (lA (lg B k))∧bd2 (lB (lg B k)) :=by
 have:=QS hok h
 exact⟨⟨this.1,this.2.1⟩,this.2.2.1,this.2.2.2⟩
theorem H8 (A:Option Addr) (n c:Nat) (B:List Leg) (x:Option Addr×Nat) (u:List Bool) (a:Nat) (w:World) (h:Legs w A n B) (hok:∀l∈B,qN l) (hn:n≤1048576) (hu: (boR n u x).P w) (hul:u.length=n) (ha:a<n) :
  Calls Tryz.prog 192 #[.slice A n c, .slice x.1 n x.2, .int .i64 (a:Int)] w fun e w'=>e= .returned (.int .i64 (ze (XE B u a)))∧Over w w':=by
 have hl:=h.1
 obtain ⟨eb,eo,rfl,_⟩ :=h.2 Om
 obtain ⟨hb1,hb2⟩ :=BS hok (show a<B.length by omega)
 obtain ⟨S,hS⟩ :∃S,S=wD B u (lB (lg B a)) :=⟨_,rfl⟩
 obtain ⟨lt,hlt⟩ :∃lt,lt=ltS B (lB (lg B a)) (lA (lg B a)) :=⟨_,rfl⟩
 refine Jh (m:=59) (Tryz.func192) J J (lb J) ?_;refine S8 ?_;refine a9 (jN (j:=a) J J J Jm Om) ?_;refine S1 ?_;refine a9 (jk J J jj J (JX (fun w' hs=>h.over hs.fin) ha)) ?_;refine S1 ?_;refine aL (fun b1=> ?_);refine N7 ?_;refine a9 (jN (j:=a) J J J Jm Om) ?_;refine S1 ?_;refine a9 (jk J J jj J (J5 (fun w' hs=>h.over hs.fin) ha)) ?_;refine S1 ?_;refine aL (fun b2=> ?_);refine N13 ?_;refine qz (X:=Nat) (fun i=>i≤n) (fun i=>n- i) (fun i=> [(9, .int .i64 (ze (VY S lt i))),(10, .int .i64 (i:Int))]) (kK [0,1,6,7,8]) 0 (jii _) ⟨J,sz⟩ ?_
 intro i hi L hL1
 refine V8 ?_;refine cZ (fun c1=> ?_) (fun c1=> ?_)
 ·have hil:i<n:=Om
  obtain ⟨hi1,hi2⟩ :=BS hok (show i<B.length by omega)
  refine S5 ?_;refine qt [(39, .bool (!(S i)))] (kK [0,1,6,7,8,9,10,21,22,23,24]) (fun L h_7=> ?_) ?_
  ·refine S1 ?_;refine JS 13 ?_;refine dK 0 ?_;refine dK 1 ?_;refine dZ 2 J (qQ (j:=i) (fun w hs=>ke hu hs.fin) J J J Va hil) ?_;refine dZ 3 J (jn J J QT (jfg (fun w hs=>ke hu hs.fin) Om)) ?_;refine dK 4 ?_;refine cV 31 (fun g1=> ?_) (fun g1=> ?_)
   ·refine fK 5 ?_;refine fK 6 ?_;refine fK 7 ?_;refine fK 8 ?_;refine fK 9 ?_;refine fK 10 ?_;refine fK 11 ?_;refine dK 12 ?_;refine JK Kr ?_;refine S1 ?_
    exact Jk h_7 ⟨vb (by rw [hS];exact jgg g1),sz⟩ (u9 J)
   ·refine eK 5 ?_;refine eK 6 ?_;refine eZ 7 J (jN (j:=i) J J J Jm Om) ?_;refine eK 8 ?_;refine eZ 9 J (jk J J jj J (J5 (fun w' hs=>h.over hs.fin) hil)) ?_;refine eK 10 ?_;refine eK 11 ?_;refine dK 12 ?_;refine JK Kr ?_;refine S1 ?_
    exact Jk h_7 ⟨vb (by rw [hS];exact jgh (v:=lB (lg B a)) g1),sz⟩ (u9 J)
  ·refine v9 ?_;refine cZ (fun c2=> ?_) (fun c2=> ?_)
   ·refine S9 ?_
    exact qi hL1 (i+1) Om Om ⟨vi (by rw [jfn c2]),vi Om,sz⟩ (u9 J)
   ·refine S2 ?_;refine qt [(56, .bool (Z8 lt (VY S lt i) i))] (kK [0,1,6,7,8,9,10,21,22,23,24,39]) (fun L h_8=> ?_) ?_
    ·refine S1 ?_;refine JS 17 ?_;refine dK 0 ?_;refine dK 1 ?_;refine dK 2 ?_;refine cV 42 (fun g2=> ?_) (fun g2=> ?_)
     ·refine fK 3 ?_;refine fK 4 ?_;refine fK 5 ?_;refine fK 6 ?_;refine fK 7 ?_;refine fK 8 ?_;refine fK 9 ?_;refine fK 10 ?_;refine fK 11 ?_;refine fK 12 ?_;refine fK 13 ?_;refine fK 14 ?_;refine fK 15 ?_;refine dK 16 ?_;refine JK Kr ?_;refine S1 ?_
      exact Jk h_8 ⟨vb (by rw [yG g2];rfl),sz⟩ (u9 J)
     ·obtain ⟨m,hm⟩ :=yH g2
      have hmi:= (UQ hm).1
      obtain ⟨hm1,hm2⟩ :=BS hok (show m<B.length by omega)
      refine eK 3 ?_;refine eK 4 ?_;refine eK 5 ?_;refine eK 6 ?_;refine eZ 7 J (jN (j:=i) J J J Jm Om) ?_;refine eK 8 ?_;refine eZ 9 J (jk J J jj J (JX (fun w' hs=>h.over hs.fin) hil)) ?_;refine eK 10 ?_;refine eZ 11 J ((ja J J).as (congrArg _ (show ze (VY S lt i) = ((m:Nat) :Int) by rw [hm];rfl))) ?_;refine eZ 12 J (jN (j:=m) J J J Jm Om) ?_;refine eK 13 ?_;refine eZ 14 J (jk J J jj J (JX (j:=m) (fun w' hs=>h.over hs.fin) Om)) ?_;refine eZ 15 J (jT U8 J J (fun w1 hs=>La (lB (lg B a)) (lA (lg B a)) (lB (lg B i)) (lB (lg B m)) w1 hb2 hb1 hi2 hm2)) ?_;refine dK 16 ?_;refine JK Kr ?_;refine S1 ?_
      exact Jk h_8 ⟨vb (by rw [hm,hlt];rfl),sz⟩ (u9 J)
    ·refine v9 ?_;refine cZ (fun c3=> ?_) (fun c3=> ?_)
     ·refine S11 ?_
      exact qi hL1 (i+1) Om Om ⟨vi (by rw [jap c2 c3];rfl),vi Om,sz⟩ (u9 J)
     ·refine S8 ?_
      exact qi hL1 (i+1) Om Om ⟨vi (by rw [jao c2 c3]),vi Om,sz⟩ (u9 J)
 ·have hin:i=n:=Om
  refine S11 ?_;refine jM J (.tmp J) ?_
  intro w' hs
  exact⟨YF (by rw [hin,←hl,hS,hlt];rfl),hs.fin⟩
theorem BQ (A:Option Addr) (n c:Nat) (B:List Leg) (x:Option Addr×Nat) (u:List Bool) (a f:Nat) (w:World) (h:Legs w A n B) (hok:∀l∈B,qN l) (hn:n≤1048576) (hu: (boR n u x).P w) (hul:u.length=n) (ha:a<n) (hf:f<n) :
  Calls Tryz.prog 191 #[.slice A n c, .slice x.1 n x.2, .int .i64 (a:Int), .int .i64 (f:Int)] w fun e w'=>e= .returned (.bool (zF B u a f))∧Over w w':=by
 have hl:=h.1
 obtain ⟨eb,eo,rfl,_⟩ :=h.2 Om
 obtain ⟨hb1,hb2⟩ :=BS hok (show a<B.length by omega)
 obtain ⟨hf1,hf2⟩ :=BS hok (show f<B.length by omega)
 refine Jh (m:=37) (Tryz.func191) J J (lb J) ?_;refine S9 ?_;refine a9 (jT Y6 J J (fun w1 hs=>H8 _ n c B x u a w1 (h.over hs.fin) hok hn (ke hu hs.fin) hul ha)) ?_;refine S8 ?_;refine cZ (fun c1=> ?_) (fun c1=> ?_)
 ·refine S6 ?_;refine jM J (.tmp J) ?_
  intro w' hs
  exact⟨QH (by rw [zF,yG c1]),hs.fin⟩
 ·obtain ⟨m,hm⟩ :=yH c1
  have hmi:= (UQ hm).1
  obtain ⟨hm1,hm2⟩ :=BS hok (show m<B.length by omega)
  rw [hm]
  refine S4 ?_;refine JS 22 ?_;refine dK 0 ?_;refine dK 1 ?_;refine dZ 2 J (jN (j:=a) J J J Jm Om) ?_;refine dK 3 ?_;refine dZ 4 J (jk J J jj J (JX (fun w' hs=>h.over hs.fin) ha)) ?_;refine dK 5 ?_;refine dK 6 ?_;refine dZ 7 J (jN (j:=a) J J J Jm Om) ?_;refine dK 8 ?_;refine dZ 9 J (jk J J jj J (J5 (fun w' hs=>h.over hs.fin) ha)) ?_;refine dK 10 ?_;refine dK 11 ?_;refine dZ 12 J (jN (j:=f) J J J Jm Om) ?_;refine dK 13 ?_;refine dZ 14 J (jk J J jj J (JX (fun w' hs=>h.over hs.fin) hf)) ?_;refine dK 15 ?_;refine dZ 16 J ((ja J J).as (congrArg _ (show ze (some m) = ((m:Nat) :Int) from J))) ?_;refine dZ 17 J (jN (j:=m) J J J Jm Om) ?_;refine dK 18 ?_;refine dZ 19 J (jk J J jj J (JX (j:=m) (fun w' hs=>h.over hs.fin) Om)) ?_;refine dZ 20 J (jT U8 J J (fun w1 hs=>La (lB (lg B a)) (lA (lg B a)) (lB (lg B f)) (lB (lg B m)) w1 hb2 hb1 hf2 hm2)) ?_;refine dK 21 ?_;refine JK Kr ?_;refine S2 ?_;refine jM J (.tmp J) ?_
  intro w' hs
  exact⟨QH (by rw [zF,hm];rfl),hs.fin⟩
theorem Dg {n:Nat} {env:List (Nat×Value)} {w0:Bs} {Rs:List Res} {K:Act→World→Prop} (k s m:Nat) {b U:Nat} {cs:List Value} (hk:Rs[k]? =some (.cel b U cs)) (hl:cs.length=m*s) (hm:m≤1048576) (h:At n env w0 (Rs.set k (.row 0 U s (.slice (some ⟨b,0,none⟩) m m) m cs)) K) :At n env w0 Rs K:=fun a w hf hs=>by
 refine h a w hf (hs.chg hk (fun hP=> ?_) (fun c hc=> ?_) J)
 ·have hP:w.heap[b]? =some (.cells cs.toArray U (0,0)) :=hP
  exact⟨hl, .inr ⟨b,m,cs.toArray,rfl,jii _,hP,jih _,by unfold maxLen;omega,by simpa using hl,by rw [←hl];simp⟩⟩
 ·have:some b=some c:=hc
  injection this with this
  exact this.symm
theorem jbJ (n:Nat) : (madeCells #[Value.bool false] n).toList= (List.replicate n false).map Value.bool:=by
 refine jjz (by simp [madeCells]) fun k h1 h2=> ?_
 simp [madeCells,Nat.mod_one]
theorem ja5 {u:List Bool} {k:Nat} (h:k<u.length) :qP (u.map Value.bool) (0+k*1) [.bool true] = (u.set k true).map Value.bool:=by
 rw [jiL,jjf,qP,qP,List.map_set]
structure BoOk (B:List Leg) :Prop where
 ok:∀l∈B,qN l
 len:B.length≤4096
def Lr (B:List Leg) (u:List Bool) (f a:Nat) :Bool:=decide (lB (lg B a) =lA (lg B f)) &&zF B u a f
theorem jaF {B:List Leg} {u:List Bool} {f a:Nat} (h:Lr B u f a=true) :y5 B u f a=none:=if_pos h
theorem jfA {B:List Leg} {u:List Bool} {f a:Nat} (h:Lr B u f a=false) :y5 B u f a=XE B u a:=if_neg (by rw [show(decide (lB (lg B a) =lA (lg B f)) &&zF B u a f) =false from h];simp)
def RunX (B:List Leg) (f:Nat) (u0 u:List Bool) (a:Option Nat) (ps:List Pn) :Prop:=match a with
 | some k=>RunI B f u0 u k ps
 | none=>uK B f (W4 u0) u0 f [] = (u,ps)∧u.length=B.length
theorem RunX.go {B:List Leg} {f:Nat} {u0 u:List Bool} {k:Nat} {ps:List Pn} (h:RunI B f u0 u k ps) (hz:Lr B (u.set k true) f k=false) :RunX B f u0 (u.set k true) (XE B (u.set k true) k) (ps++ [lA (lg B k)]) :=by
 have hs:=jfA hz
 cases e:XE B (u.set k true) k with
 | none=>exact⟨h.stop (by rw [hs,e]),by rw [jjv];exact h.len⟩
 | some m=>exact h.more (by rw [hs,e])
theorem jfy {B:List Leg} {u:List Bool} {f k:Nat} (h: ((lg B k).bx== (lg B f).ax&& (lg B k).b_y== (lg B f).ay) =true) :zF B u k f=Lr B u f k:=by
 simp only [jig,beq_iff_eq] at h
 have e:lB (lg B k) =lA (lg B f) :=Prod.ext h.1 h.2
 rw [Lr,decide_eq_true e,jix]
theorem jfz {B:List Leg} {u:List Bool} {f k:Nat} (h: ((lg B k).bx== (lg B f).ax&& (lg B k).b_y== (lg B f).ay) =false) :false=Lr B u f k:=by
 have e:¬lB (lg B k) =lA (lg B f) :=fun e=>by
  rw [show(lg B k).bx= (lg B f).ax from congrArg Prod.fst e,show(lg B k).b_y= (lg B f).ay from congrArg Prod.snd e] at h
  simp at h
 rw [Lr,decide_eq_false e,jiC]
def msr (u:List Bool) (a:Option Nat) :Nat:=match a with
 | some _=>W4 u+1
 | none=>0
theorem jcr {B:List Leg} {f:Nat} {u0 u:List Bool} {k:Nat} {ps:List Pn} (h:RunI B f u0 u k ps) (a:Option Nat) :msr (u.set k true) a<msr u (some k) :=by
 have:=h.pos
 cases a<;>simp only [msr] <;>omega
theorem Gi {B:List Leg} {i:Nat} (h:yw (kL B i).1 i=true) :kL B (i+1) =kL B i:=by
 rw [kL,if_pos h]
theorem C0 {B:List Leg} {i:Nat} (h:yw (kL B i).1 i=false) :kL B (i+1) = ((uK B i (W4 (kL B i).1) (kL B i).1 i []).1,(kL B i).2++ [(uK B i (W4 (kL B i).1) (kL B i).1 i []).2]) :=by
 rw [kL,if_neg (by rw [h];simp)]
theorem FX (A:Option Addr) (n c:Nat) (B:List Leg) (w:World) (h:Legs w A n B) (hB:BoOk B) :
  Calls Tryz.prog 140 #[.slice A n c] w fun e w'=>∃A' c',e= .returned (.slice A' (KG B).length c')∧OwnG w.heap.size w'.heap.size w' A' (KG B).length (KG B)∧Over w w':=by
 have hl:=h.1
 have hn:=hB.len
 rw [hl] at hn
 have hok:=hB.ok
 refine Jh (m:=66) (Tryz.func140) J J (lb J) ?_;refine S9 ?_;refine Cj J J J Va Yb J Dc Om Om (fun b1=> ?_);refine N2 ?_;refine Dg 0 1 n (b:=b1) (U:=4) (cs:= (List.replicate n false).map Value.bool) (by rw [←jbJ];simp) (by simp) Om ?_;refine t9 ?_;refine S3 ?_;refine Jx J J (Wb) J (lb J) (fun b2=> ?_);refine WF 1 1 J J ?_;refine N2 ?_;refine Vq ?_;refine t9 ?_;refine S6 ?_;refine JQ (X:=Nat×(Option Addr×Nat)×List Pc) (fun x=>x.1≤n∧x.2.2.map (·.xs) = (kL B x.1).2) (fun x=>n- x.1) (fun x=> [(4, .slice x.2.1.1 x.2.2.length x.2.1.2),(5, .int .i64 (x.1:Int))]) (kK [0,2,3]) (fun x=> [boR n (kL B x.1).1 (some ⟨b1,0,none⟩,n),JY (Bs.N ⟨w,[]⟩) 77 1 x.2.2.length (x.2.2.map Pc.val) x.2.1,vE x.2.2]) (0,(some ⟨b2,0,none⟩,0),[]) (⟨jii _,J⟩) ⟨J,sz⟩ (fun _ h=>by rw [show(kL B 0).1=List.replicate n false by rw [←hl];rfl];exact h) ?_
 intro⟨i,⟨rA,rc⟩,l⟩ hx L hL1
 refine v9 ?_;refine r9 ?_
 obtain ⟨hi,hmp⟩ :i≤n∧l.map (·.xs) = (kL B i).2:=hx
 have hul: (kL B i).1.length=n:= (by rw [y6,hl])
 obtain ⟨tl1,tl2⟩ :=y7 (B:=B) i Om
 have hll:l.length≤4096:= (by have:=congrArg List.length hmp;rw [jit] at this;omega)
 refine S8 ?_;refine cZ (fun c1=> ?_) (fun c1=> ?_)
 ·have hil:i<n:=Om
  refine S9 ?_;refine a9 (qQ (r:= (some ⟨b1,0,none⟩,n)) (j:=i) (fun w hs=> (hs.all 0 _ J).1) J J J Va hil) ?_;refine a9 (jn J J QT (jfg (r:= (some ⟨b1,0,none⟩,n)) (fun w hs=> (hs.all 0 _ J).1) Om)) ?_;refine S1 ?_;refine cZ (fun c2=> ?_) (fun c2=> ?_)
  ·refine S9 ?_
   exact Ji hL1 ((i+1,(rA,rc),l)) (⟨(show i+1≤n by omega),(by rw [Gi c2];exact hmp)⟩) (by simp only;omega) ⟨J,vi Om,sz⟩ (fun _ h=>h.upto ⟨by rw [Gi c2],sz⟩)
  ·obtain ⟨u0,hu0⟩ :∃u0,u0= (kL B i).1:=⟨_,rfl⟩
   have hst:yw u0 i=false:= (by rw [hu0];exact c2)
   obtain ⟨R,hR⟩ :∃R,R=uK B i (W4 u0) u0 i [] :=⟨_,rfl⟩
   have hnx:kL B (i+1) = (R.1,(kL B i).2++ [R.2]) := (by rw [C0 c2,hR,hu0])
   rw [←hu0] at hul⊢
   obtain ⟨_,hRl⟩ :=y7 (B:=B) (i+1) Om
   have hRs:R.2.length≤4096:= (by have:= (hRl R.2 (by rw [hnx];simp)).2.1;omega)
   obtain ⟨eb,eo,rfl,_⟩ :=h.2 Om
   refine S4 ?_;refine a9 (JU J J (vJ)) ?_;refine S1 ?_;refine aL (fun b3=> ?_);refine N3 ?_;refine Q7 (T:=56) (s:=2) ?_;refine t9 ?_;refine S5 ?_;refine Ul (X:= (Option Addr×Nat)×Int) (fun x=>True) (fun x=> [(7, .int .i64 x.2)]) (kK [0,2,3,4,5,12,13,14,15,18,19,20,21,22,6,23]) (fun x=> [boR n R.1 (some ⟨b1,0,none⟩,n),JY (Bs.N ⟨w,[]⟩) 77 1 l.length (l.map Pc.val) (rA,rc),vE l, .cel b3 77 [.slice x.1.1 R.2.length x.1.2],JY (Bs.N ⟨w,[]⟩) 56 2 R.2.length (R.2.flatMap Js) x.1]) (fun L h_2=> ?_) ?_
   ·refine S1 ?_;refine JQ (X:=List Bool×Option Nat×List Pn×Option Addr×Nat) (fun y=>RunX B i u0 y.1 y.2.1 y.2.2.1∧y.2.2.1.length+W4 y.1≤4096) (fun y=>msr y.1 y.2.1) (fun y=> [(7, .int .i64 (ze y.2.1))]) (kK [0,2,3,4,5,12,13,14,15,18,19,20,21,22,6,23]) (fun y=> [boR n y.1 (some ⟨b1,0,none⟩,n),JY (Bs.N ⟨w,[]⟩) 77 1 l.length (l.map Pc.val) (rA,rc),vE l, .cel b3 77 [.slice y.2.2.2.1 y.2.2.1.length y.2.2.2.2],JY (Bs.N ⟨w,[]⟩) 56 2 y.2.2.1.length (y.2.2.1.flatMap Js) y.2.2.2]) (u0,some i,[],none,0) (⟨RunI.start Om Om hst,(by have:=FD u0;simp;omega)⟩) ⟨J,sz⟩ (fun _ h=>h) ?_
    intro⟨u,ao,ps,qA,qc⟩ hy L hL2
    refine v9 ?_;refine r9 ?_
    obtain ⟨hy1,hy2⟩ :RunX B i u0 u ao ps∧ps.length+W4 u≤4096:=hy
    refine S6 ?_;refine cZ (fun c3=> ?_) (fun c3=> ?_)
    ·obtain ⟨k,rfl⟩ :=yH c3
     have hI:RunI B i u0 u k ps:=hy1
     have hkB:=hI.la
     have hun:u.length=n:= (by rw [hI.len,hl])
     have hkn:k<n:=Om
     have hpos:=hI.pos
     refine S6 ?_;refine a9 ((ja J J).as (congrArg _ (show ze (some k) = ((k:Nat) :Int) from J))) ?_;refine a9 (qQ (r:= (some ⟨b1,0,none⟩,n)) (j:=k) (fun w hs=> (hs.all 0 _ J).1) J J J Va hkn) ?_;refine S1 ?_;refine Uw (k:=0) (r:= (some ⟨b1,0,none⟩,n)) (vs:= [.bool true]) J J J J (by rfl) (by rfl) Yb.szx J J (by simp) (by rw [jit];simp only [jim,jiH];omega) ?_;refine n9 ?_
     rw [ja5 Om]
     refine S3 ?_;refine JS 8 ?_;refine dV 0 [1] ?_;refine dK 1 ?_;refine dV 2 [4,5,6,7] ?_;refine d9 3 J [4,5,6,7] (u9 J) ((ja J J).as (congrArg _ (show ze (some k) = ((k:Nat) :Int) from J))) ?_;refine d9 4 J [5,6,7] (u9 J) (jN (j:=k) J J J Jm Om) ?_;refine dV 5 [6,7] ?_;refine d9 6 J [7] (u9 J) (jk J J jj J (J5 (fun w' hs=>h.over hs.fin) hkn)) ?_;refine qe (i:=7) J Dc Kr J ?_;refine Jx J J (qM J) J (lb J) (fun b4=> ?_);refine n9 ?_;refine JO (u9 J) ?_;refine vg J Kr J ?_;refine JV (k:=4) J jw jH Dc J Dc J J J (fun w' hs=>Qb hs (k:=5) J J) (by simp [Value.oneCell']) (by unfold maxLen;omega) Om (jih _) (fun r1=> ?_);refine n9 ?_;refine Qx 11 [3] ?_;refine dK 9 ?_;refine qe (i:=10) J Dc Kr J ?_;refine S1 ?_;refine JO (uw [3] J) ?_;refine JK Kr ?_;refine S2 ?_;refine qt [(56, .bool (Lr B (u.set k true) i k))] (kK [0,2,3,4,5,12,13,14,15,18,19,20,21,22,6,23,7,24,25,26,27,28,29,30,31,32,33,34,35,36,37,38]) (fun L h_12=> ?_) ?_
     ·refine S1 ?_;refine JS 18 ?_;refine dK 0 ?_;refine dZ 1 J ((ja J J).as (congrArg _ (show ze (some k) = ((k:Nat) :Int) from J))) ?_;refine dZ 2 J (jN (j:=k) J J J Jm Om) ?_;refine dK 3 ?_;refine dZ 4 J (jk J J jj J (JX (fun w' hs=>h.over hs.fin) hkn)) ?_;refine dK 5 ?_;refine dK 6 ?_;refine dZ 7 J (jN (j:=i) J J J Jm Om) ?_;refine dK 8 ?_;refine dZ 9 J (jk J J jj J (J5 (fun w' hs=>h.over hs.fin) hil)) ?_;refine dK 10 ?_;refine dK 11 ?_;refine cV 50 (fun g1=> ?_) (fun g1=> ?_)
      ·refine eK 12 ?_;refine eK 13 ?_;refine eZ 14 J ((ja J J).as (congrArg _ (show ze (some k) = ((k:Nat) :Int) from J))) ?_;refine eK 15 ?_;refine eZ 16 J (jT XV J J (fun w1 hs=>BQ _ n c B (some ⟨b1,0,none⟩,n) (u.set k true) k i w1 (h.over hs.fin) hok Om (hs.all 0 _ J).1 (by rw [jjv];exact hun) hkn hil)) ?_;refine dK 17 ?_;refine JK Kr ?_;refine S1 ?_
       exact Jk h_12 ⟨vb (jfy g1),sz⟩ (u9 J)
      ·refine fK 12 ?_;refine fK 13 ?_;refine fK 14 ?_;refine fK 15 ?_;refine fK 16 ?_;refine dK 17 ?_;refine JK Kr ?_;refine S1 ?_
       exact Jk h_12 ⟨vb (jfz g1),sz⟩ (u9 J)
     ·refine v9 ?_;refine cZ (fun c4=> ?_) (fun c4=> ?_)
      ·have hRe:R= (u.set k true,ps++ [lA (lg B k)]) := (by rw [hR];exact hI.stop (jaF c4))
       refine S6 ?_
       exact kg h_2 ((r1,(k:Int))) (trivial) ⟨J,sz⟩ (fun _ h=> (h.picks [0,1,2,3,4] Dc).upto ⟨by rw [hRe],J,J,by rw [hRe,jif];rfl,by rw [hRe,jif,jio];rfl,trivial⟩)
      ·refine S5 ?_;refine a9 ((ja J J).as (congrArg _ (show ze (some k) = ((k:Nat) :Int) from J))) ?_;refine a9 (jT Y6 J J (fun w1 hs=>H8 _ n c B (some ⟨b1,0,none⟩,n) (u.set k true) k w1 (h.over hs.fin) hok Om (hs.all 0 _ J).1 (by rw [jjv];exact hun) hkn)) ?_;refine S4 ?_
       exact Ji hL2 ((u.set k true,XE B (u.set k true) k,ps++ [lA (lg B k)],r1)) (⟨RunX.go hI c4,(by simp only [jif,jim,jiH];omega)⟩) (jcr hI _) ⟨J,sz⟩ (fun _ h=> (h.picks [0,1,2,3,4] Dc).upto ⟨J,J,J,by rw [jif];rfl,by rw [jif,jio];rfl,trivial⟩)
    ·obtain rfl:=yG c3
     have hRe:R= (u,ps) := (by rw [hR];exact hy1.1)
     refine S5 ?_
     exact kg h_2 (((qA,qc),-1)) (trivial) ⟨J,sz⟩ (fun _ h=> (h.picks [0,1,2,3,4] Dc).upto ⟨by rw [hRe],J,J,by rw [hRe],by rw [hRe],trivial⟩)
   ·rintro⟨⟨pA,pc⟩,_⟩ -
    refine v9 ?_;refine r9 ?_;refine S4 ?_;refine Jx J J (qH J) J (lb J) (fun b5=> ?_);refine N1 ?_;refine JV (k:=1) J jK Jw Dc J Dc J J J (fun w' hs=>Qb hs (k:=5) J J) (by simp [Value.oneCell']) (by unfold maxLen;omega) Om (jih _) (fun r2=> ?_);refine N2 ?_;refine ZY 4 J J (fun clo chi=> ?_);refine t9 ?_;refine wN 2 4 J J Dc J ?_;refine t9 ?_;refine S7 ?_
    exact Ji hL1 ((i+1,r2,l++ [⟨R.2,pA,pc,clo,chi⟩])) (⟨(show i+1≤n by omega),(by rw [jiO,hmp,hnx];rfl)⟩) (by simp only;omega) ⟨(by rw [jif];rfl),vi Om,sz⟩ (fun _ h=>h.upto ⟨by rw [hnx],by rw [jif,jiO];rfl,(vT _ _).symm,trivial⟩)
 ·have hin:i=n:=Om
  have htr:l.map (·.xs) =KG B:= (by rw [hmp,hin,←hl];rfl)
  have htl: (KG B).length=l.length:= (by rw [←htr,jit])
  refine S11 ?_;refine jM J (.tmp J) ?_
  intro w' hs
  exact⟨rA,rc,by rw [htl],by rw [htl];exact yZ hs (kr:=1) (kp:=2) rfl rfl Dc rfl rfl htr (fun j hj=>by rw [←Wa hj];have:= (tl2 _ (by rw [←hmp,htr];exact jis hj)).2.1;omega),hs.fin⟩
end Go.Proofs.YtpncbbcmoiiipaaGreat
