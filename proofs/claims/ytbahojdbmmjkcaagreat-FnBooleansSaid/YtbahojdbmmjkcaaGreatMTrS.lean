import Derived.Test.YtbahojdbmmjkcaaGreatMTrQ
import Derived.Test.YtbahojdbmmjkcaaGreatMNetI
import Derived.Test.YtbahojdbmmjkcaaGreatMOrder
import Derived.Test.YtbahojdbmmjkcaaGreatMSnapB
set_option linter.unusedVariables false
set_option linter.unusedSimpArgs false
namespace Go.Proofs.YtbahojdbmmjkcaaGreat
open Go Go.RowKit
variable {B:List Leg} {K:Act→World→Prop} {S:Nat→Bool} {b:Option Nat} {cs:List Value} {env:List (Nat×Value)} {f i k n:Nat} {lt:Nat→Nat→Bool} {ps:List Pn} {r:Option Addr×Nat} {u u0:List Bool} {v:Pn}
set_option maxRecDepth 100000
set_option maxHeartbeats 4000000
theorem Fi (o a:Pn) (w:World) :Calls Tryz.prog 283 #[pV o,pV a] w fun e w'=>e= .returned (.int .i64 (yS o a))∧Over w w':=by
 refine j6 (m:=24) (Tryz.func283) J J (lb J) ?_;refine S3 ?_;refine aX (fun b1=> ?_);refine N1 ?_;refine aX (fun b2=> ?_);refine N3 ?_;refine qt [(23, .bool (decide (a.2>o.2∨(a.2=o.2∧a.1>o.1))))] (kK [4]) (fun L h_1=> ?_) ?_
 ·refine S7 ?_;refine cV 10 (fun g1=> ?_) (fun g1=> ?_)
  ·refine S14 ?_
   exact Jo h_1 ⟨vb (decide_eq_true (.inl Om)).symm,sz⟩ (u9 J)
  ·refine S12 ?_;refine cV 16 (fun g2=> ?_) (fun g2=> ?_)
   ·refine S14 ?_
    exact Jo h_1 ⟨vb (by rw [jjT,decide_eq_true_iff,decide_eq_true_iff];omega),sz⟩ (u9 J)
   ·refine S9 ?_
    exact Jo h_1 ⟨vb (decide_eq_false Om).symm,sz⟩ (u9 J)
 ·refine v9 ?_;refine cZ (fun c1=> ?_) (fun c1=> ?_)
  ·refine S6 ?_;refine jK J (.tmp J) ?_
   intro w' hs
   exact⟨Y0 (by rw [yS,if_pos c1]),hs.fin⟩
  ·refine S7 ?_;refine jK J (.tmp J) ?_
   intro w' hs
   exact⟨Y0 (by rw [yS,if_neg c1]),hs.fin⟩
theorem Zm (o a b:Pn) (w:World) (ho:bd2 o) (ha:bd2 a) (hb:bd2 b) :Calls Tryz.prog 280 #[pV o,pV a,pV b] w fun e w'=>e= .returned (.int .i64 (M9 o a b))∧Over w w':=by
 have h1:=zk o a
 have h2:=zk o b
 have h3:=jhW (tn o a b)
 refine j6 (m:=28) (Tryz.func280) J J (lb J) ?_;refine S3 ?_;refine aX (fun b1=> ?_);refine N1 ?_;refine aX (fun b2=> ?_);refine N1 ?_;refine aX (fun b3=> ?_);refine N6 ?_;refine a9 (jM zt J J (fun w1 hs=>Fi o a w1)) ?_;refine S6 ?_;refine a9 (jM zt J J (fun w1 hs=>Fi o b w1)) ?_;refine S9 ?_;refine cZ (fun c1=> ?_) (fun c1=> ?_)
 ·refine S5 ?_;refine a9 (jM vn J J (fun w1 hs=>WI _ w1)) ?_;refine S4 ?_;refine jK J (.tmp J) ?_
  intro w' hs
  exact⟨Y0 (by rw [M9,if_pos c1]),hs.fin⟩
 ·refine S7 ?_;refine a9 (jM Qa J J (fun w1 hs=>WK o a b w1 ho ha hb)) ?_;refine a9 (jM vn J J (fun w1 hs=>WI _ w1)) ?_;refine a9 (yK J J Om Om) ?_;refine S3 ?_;refine jK J (.tmp J) ?_
  intro w' hs
  exact⟨Y0 (by rw [M9,if_neg (by simpa using c1)]),hs.fin⟩
theorem LE (v f p q:Pn) (w:World) (hv:bd2 v) (hf:bd2 f) (hp:bd2 p) (hq:bd2 q) :Calls Tryz.prog 270 #[pV v,pV f,pV p,pV q] w fun e w'=>e= .returned (.bool (GN v f p q))∧Over w w':=by
 refine j6 (m:=30) (Tryz.func270) J J (lb J) ?_;refine S3 ?_;refine aX (fun b1=> ?_);refine N1 ?_;refine aX (fun b2=> ?_);refine N1 ?_;refine aX (fun b3=> ?_);refine N1 ?_;refine aX (fun b4=> ?_);refine N7 ?_;refine a9 (jM W6 J J (fun w1 hs=>Zm v p f w1 hv hp hf)) ?_;refine S8 ?_;refine a9 (jM W6 J J (fun w1 hs=>Zm v q f w1 hv hq hf)) ?_;refine S8 ?_;refine a9 (I3 Kh J J J) ?_;refine S1 ?_;refine cZ (fun c1=> ?_) (fun c1=> ?_)
 ·refine S7 ?_;refine jK J (.tmp J) ?_
  intro w' hs
  exact⟨QF (by rw [GN,if_pos c1]),hs.fin⟩
 ·refine S7 ?_;refine a9 (jM W6 J J (fun w1 hs=>Zm v p q w1 hv hp hq)) ?_;refine S4 ?_;refine jK J (.tmp J) ?_
  intro w' hs
  exact⟨QF (by rw [GN,if_neg (by simpa using c1)]),hs.fin⟩
def zI:Option Nat→Int
 | none=> -1
 | some m=> (m:Int)
theorem y6 (h:0≤zI b) :∃m,b=some m:=by
 cases b with
 | none=>simp [zI] at h
 | some m=>exact⟨m,rfl⟩
theorem y5 (h:zI b<0) :b=none:=by
 cases b with
 | none=>rfl
 | some m=>exact absurd (show(m:Int) <0 from h) (jkn.2 (Int.natCast_nonneg m))
abbrev boR (n:Nat) (u:List Bool) (x:Option Addr×Nat) :Res:=J3 0 4 1 n (u.map Value.bool) x
theorem jg1 (h:k<u.length) : (u.map Value.bool)[k]? =some (.bool (yP u k)) :=by simp [yP,List.getD,h]
section
variable {w0:Bs} {Rs:List Res}
theorem jf1 (hr:∀w,St w0 Rs w→(boR n u r).P w) (h:k<u.length) :∀w,St w0 Rs w→w.cell? ⟨uo r.1,0+k*1,none⟩ =some (.bool (yP u k)) :=fun w hs=>by
 rw [jjP,jki]
 exact GH (hr w hs) (jg1 h)
end
theorem jg5 (h:yP u i=true) :true= !(wZ B u v i) :=by simp [wZ,h]
theorem jg6 (h:yP u i=false) : (!((lg B i).ax==v.1&& (lg B i).ay==v.2)) = !(wZ B u v i) :=by
 have e: ((lg B i).ax==v.1&& (lg B i).ay==v.2) =decide (lA (lg B i) =v) :=by
  rw [jjT]
  simp [lA,Prod.ext_iff]
 rw [e,wZ,h]
 rfl
theorem jgc (h:S i=false) :wl S lt (i+1) =wl S lt i:=by
 rw [VN]
 unfold LU
 cases wl S lt i<;>simp [h]
def xC (lt:Nat→Nat→Bool) (b:Option Nat) (i:Nat) :Bool:=match b with
 | none=>true
 | some m=>lt i m
theorem ja6 (h:S i=true) (ht:xC lt (wl S lt i) i=true) :wl S lt (i+1) =some i:=by
 rw [VN]
 unfold LU
 unfold xC at ht
 cases e:wl S lt i<;>rw [e] at ht<;>simp_all
theorem ja5 (h:S i=true) (ht:xC lt (wl S lt i) i=false) :wl S lt (i+1) =wl S lt i:=by
 rw [VN]
 unfold LU
 unfold xC at ht
 cases e:wl S lt i<;>rw [e] at ht<;>simp_all
theorem DA (hok:∀l∈B,qM l) (h:k<B.length) :bd2 (lA (lg B k))∧bd2 (lB (lg B k)) :=by
 have:=kC hok h
 exact⟨⟨this.1,this.2.1⟩,this.2.2.1,this.2.2.2⟩
theorem LD (A:Option Addr) (n c:Nat) (B:List Leg) (x:Option Addr×Nat) (u:List Bool) (a:Nat) (w:World) (h:Legs w A n B) (hok:∀l∈B,qM l) (hn:n≤1048576) (hu: (boR n u x).P w) (hul:u.length=n) (ha:a<n) :
  Calls Tryz.prog 239 #[.slice A n c, .slice x.1 n x.2, .int .i64 (a:Int)] w fun e w'=>e= .returned (.int .i64 (zI (Ge B u a)))∧Over w w':=by
 have hl:=h.1
 obtain ⟨eb,eo,rfl,_⟩ :=h.2 Om
 obtain ⟨hb1,hb2⟩ :=DA hok (show a<B.length by omega)
 obtain ⟨S,hS⟩ :∃S,S=wZ B u (lB (lg B a)) :=⟨_,rfl⟩
 obtain ⟨lt,hlt⟩ :∃lt,lt=ltS B (lB (lg B a)) (lA (lg B a)) :=⟨_,rfl⟩
 refine j6 (m:=59) (Tryz.func239) J J (lb J) ?_;refine S8 ?_;refine a9 (jV (j:=a) J J J Ju Om) ?_;refine S1 ?_;refine a9 (jl J J jk J (q5 (fun w' hs=>h.over hs.fin) ha)) ?_;refine S1 ?_;refine aL (fun b1=> ?_);refine N7 ?_;refine a9 (jV (j:=a) J J J Ju Om) ?_;refine S1 ?_;refine a9 (jl J J jk J (Qn (fun w' hs=>h.over hs.fin) ha)) ?_;refine S1 ?_;refine aL (fun b2=> ?_);refine N13 ?_;refine qv (X:=Nat) (fun i=>i≤n) (fun i=>n- i) (fun i=> [(9, .int .i64 (zI (wl S lt i))),(10, .int .i64 (i:Int))]) (kK [0,1,6,7,8]) 0 (jjo _) ⟨J,sz⟩ ?_
 intro i hi L hL1
 refine V8 ?_;refine cZ (fun c1=> ?_) (fun c1=> ?_)
 ·have hil:i<n:=Om
  obtain ⟨hi1,hi2⟩ :=DA hok (show i<B.length by omega)
  refine S5 ?_;refine qt [(39, .bool (!(S i)))] (kK [0,1,6,7,8,9,10,21,22,23,24]) (fun L h_7=> ?_) ?_
  ·refine S1 ?_;refine JS 13 ?_;refine dK 0 ?_;refine dK 1 ?_;refine dZ 2 J (qQ (j:=i) (fun w hs=>Qr hu hs.fin) J J J Vg hil) ?_;refine dZ 3 J (jo J J QT (jf1 (fun w hs=>Qr hu hs.fin) Om)) ?_;refine dK 4 ?_;refine cV 31 (fun g1=> ?_) (fun g1=> ?_)
   ·refine fK 5 ?_;refine fK 6 ?_;refine fK 7 ?_;refine fK 8 ?_;refine fK 9 ?_;refine fK 10 ?_;refine fK 11 ?_;refine dK 12 ?_;refine JJ Kr ?_;refine S1 ?_
    exact Jo h_7 ⟨vb (by rw [hS];exact jg5 g1),sz⟩ (u9 J)
   ·refine eK 5 ?_;refine eK 6 ?_;refine eZ 7 J (jV (j:=i) J J J Ju Om) ?_;refine eK 8 ?_;refine eZ 9 J (jl J J jk J (Qn (fun w' hs=>h.over hs.fin) hil)) ?_;refine eK 10 ?_;refine eK 11 ?_;refine dK 12 ?_;refine JJ Kr ?_;refine S1 ?_
    exact Jo h_7 ⟨vb (by rw [hS];exact jg6 (v:=lB (lg B a)) g1),sz⟩ (u9 J)
  ·refine v9 ?_;refine cZ (fun c2=> ?_) (fun c2=> ?_)
   ·refine S9 ?_
    exact qf hL1 (i+1) Om Om ⟨vi (by rw [jgc c2]),vi Om,sz⟩ (u9 J)
   ·refine S2 ?_;refine qt [(56, .bool (xC lt (wl S lt i) i))] (kK [0,1,6,7,8,9,10,21,22,23,24,39]) (fun L h_8=> ?_) ?_
    ·refine S1 ?_;refine JS 17 ?_;refine dK 0 ?_;refine dK 1 ?_;refine dK 2 ?_;refine cV 42 (fun g2=> ?_) (fun g2=> ?_)
     ·refine fK 3 ?_;refine fK 4 ?_;refine fK 5 ?_;refine fK 6 ?_;refine fK 7 ?_;refine fK 8 ?_;refine fK 9 ?_;refine fK 10 ?_;refine fK 11 ?_;refine fK 12 ?_;refine fK 13 ?_;refine fK 14 ?_;refine fK 15 ?_;refine dK 16 ?_;refine JJ Kr ?_;refine S1 ?_
      exact Jo h_8 ⟨vb (by rw [y5 g2];rfl),sz⟩ (u9 J)
     ·obtain ⟨m,hm⟩ :=y6 g2
      have hmi:= (ya hm).1
      obtain ⟨hm1,hm2⟩ :=DA hok (show m<B.length by omega)
      refine eK 3 ?_;refine eK 4 ?_;refine eK 5 ?_;refine eK 6 ?_;refine eZ 7 J (jV (j:=i) J J J Ju Om) ?_;refine eK 8 ?_;refine eZ 9 J (jl J J jk J (q5 (fun w' hs=>h.over hs.fin) hil)) ?_;refine eK 10 ?_;refine eZ 11 J ((ja J J).as (congrArg _ (show zI (wl S lt i) = ((m:Nat) :Int) by rw [hm];rfl))) ?_;refine eZ 12 J (jV (j:=m) J J J Ju Om) ?_;refine eK 13 ?_;refine eZ 14 J (jl J J jk J (q5 (j:=m) (fun w' hs=>h.over hs.fin) Om)) ?_;refine eZ 15 J (jM yo J J (fun w1 hs=>LE (lB (lg B a)) (lA (lg B a)) (lB (lg B i)) (lB (lg B m)) w1 hb2 hb1 hi2 hm2)) ?_;refine dK 16 ?_;refine JJ Kr ?_;refine S1 ?_
      exact Jo h_8 ⟨vb (by rw [hm,hlt];rfl),sz⟩ (u9 J)
    ·refine v9 ?_;refine cZ (fun c3=> ?_) (fun c3=> ?_)
     ·refine S11 ?_
      exact qf hL1 (i+1) Om Om ⟨vi (by rw [ja6 c2 c3];rfl),vi Om,sz⟩ (u9 J)
     ·refine S8 ?_
      exact qf hL1 (i+1) Om Om ⟨vi (by rw [ja5 c2 c3]),vi Om,sz⟩ (u9 J)
 ·have hin:i=n:=Om
  refine S11 ?_;refine jK J (.tmp J) ?_
  intro w' hs
  exact⟨Y0 (by rw [hin,←hl,hS,hlt];rfl),hs.fin⟩
theorem Dy (A:Option Addr) (n c:Nat) (B:List Leg) (x:Option Addr×Nat) (u:List Bool) (a f:Nat) (w:World) (h:Legs w A n B) (hok:∀l∈B,qM l) (hn:n≤1048576) (hu: (boR n u x).P w) (hul:u.length=n) (ha:a<n) (hf:f<n) :
  Calls Tryz.prog 238 #[.slice A n c, .slice x.1 n x.2, .int .i64 (a:Int), .int .i64 (f:Int)] w fun e w'=>e= .returned (.bool (zX B u a f))∧Over w w':=by
 have hl:=h.1
 obtain ⟨eb,eo,rfl,_⟩ :=h.2 Om
 obtain ⟨hb1,hb2⟩ :=DA hok (show a<B.length by omega)
 obtain ⟨hf1,hf2⟩ :=DA hok (show f<B.length by omega)
 refine j6 (m:=37) (Tryz.func238) J J (lb J) ?_;refine S9 ?_;refine a9 (jM zy J J (fun w1 hs=>LD _ n c B x u a w1 (h.over hs.fin) hok hn (Qr hu hs.fin) hul ha)) ?_;refine S8 ?_;refine cZ (fun c1=> ?_) (fun c1=> ?_)
 ·refine S6 ?_;refine jK J (.tmp J) ?_
  intro w' hs
  exact⟨QF (by rw [zX,y5 c1]),hs.fin⟩
 ·obtain ⟨m,hm⟩ :=y6 c1
  have hmi:= (ya hm).1
  obtain ⟨hm1,hm2⟩ :=DA hok (show m<B.length by omega)
  rw [hm]
  refine S4 ?_;refine JS 22 ?_;refine dK 0 ?_;refine dK 1 ?_;refine dZ 2 J (jV (j:=a) J J J Ju Om) ?_;refine dK 3 ?_;refine dZ 4 J (jl J J jk J (q5 (fun w' hs=>h.over hs.fin) ha)) ?_;refine dK 5 ?_;refine dK 6 ?_;refine dZ 7 J (jV (j:=a) J J J Ju Om) ?_;refine dK 8 ?_;refine dZ 9 J (jl J J jk J (Qn (fun w' hs=>h.over hs.fin) ha)) ?_;refine dK 10 ?_;refine dK 11 ?_;refine dZ 12 J (jV (j:=f) J J J Ju Om) ?_;refine dK 13 ?_;refine dZ 14 J (jl J J jk J (q5 (fun w' hs=>h.over hs.fin) hf)) ?_;refine dK 15 ?_;refine dZ 16 J ((ja J J).as (congrArg _ (show zI (some m) = ((m:Nat) :Int) from J))) ?_;refine dZ 17 J (jV (j:=m) J J J Ju Om) ?_;refine dK 18 ?_;refine dZ 19 J (jl J J jk J (q5 (j:=m) (fun w' hs=>h.over hs.fin) Om)) ?_;refine dZ 20 J (jM yo J J (fun w1 hs=>LE (lB (lg B a)) (lA (lg B a)) (lB (lg B f)) (lB (lg B m)) w1 hb2 hb1 hf2 hm2)) ?_;refine dK 21 ?_;refine JJ Kr ?_;refine S2 ?_;refine jK J (.tmp J) ?_
  intro w' hs
  exact⟨QF (by rw [zX,hm];rfl),hs.fin⟩
theorem DU {w0:Bs} {Rs:List Res} (k s m:Nat) {b U:Nat} (hk:Rs[k]? =some (.cel b U cs)) (hl:cs.length=m*s) (hm:m≤1048576) (h:At n env w0 (Rs.set k (.row 0 U s (.slice (some ⟨b,0,none⟩) m m) m cs)) K) :At n env w0 Rs K:=fun a w hf hs=>by
 refine h a w hf (hs.chg hk (fun hP=> ?_) (fun c hc=> ?_) J)
 ·have hP:w.heap[b]? =some (.cells cs.toArray U (0,0)) :=hP
  exact⟨hl, .inr ⟨b,m,cs.toArray,rfl,jjo _,hP,jjm _,by unfold maxLen;omega,by simpa using hl,by rw [←hl];simp⟩⟩
 ·have:some b=some c:=hc
  injection this with this
  exact this.symm
theorem jcr (n:Nat) : (madeCells #[Value.bool false] n).toList= (List.replicate n false).map Value.bool:=by
 refine jkC (by simp [madeCells]) fun k h1 h2=> ?_
 simp [madeCells,Nat.mod_one]
theorem jbP (h:k<u.length) :qP (u.map Value.bool) (0+k*1) [.bool true] = (u.set k true).map Value.bool:=by
 rw [jjP,jki,qP,qP,List.map_set]
structure BoOk (B:List Leg) :Prop where
 ok:∀l∈B,qM l
 len:B.length≤4096
def LT (B:List Leg) (u:List Bool) (f a:Nat) :Bool:=decide (lB (lg B a) =lA (lg B f)) &&zX B u a f
theorem jbm {a:Nat} (h:LT B u f a=true) :Yr B u f a=none:=if_pos h
theorem jgp {a:Nat} (h:LT B u f a=false) :Yr B u f a=Ge B u a:=if_neg (by rw [show(decide (lB (lg B a) =lA (lg B f)) &&zX B u a f) =false from h];simp)
def RunX (B:List Leg) (f:Nat) (u0 u:List Bool) (a:Option Nat) (ps:List Pn) :Prop:=match a with
 | some k=>RunI B f u0 u k ps
 | none=>Ud B f (uq u0) u0 f [] = (u,ps)∧u.length=B.length
theorem RunX.go (h:RunI B f u0 u k ps) (hz:LT B (u.set k true) f k=false) :RunX B f u0 (u.set k true) (Ge B (u.set k true) k) (ps++ [lA (lg B k)]) :=by
 have hs:=jgp hz
 cases e:Ge B (u.set k true) k with
 | none=>exact⟨h.stop (by rw [hs,e]),by rw [jky];exact h.len⟩
 | some m=>exact h.more (by rw [hs,e])
theorem jgn (h: ((lg B k).bx== (lg B f).ax&& (lg B k).b_y== (lg B f).ay) =true) :zX B u k f=LT B u f k:=by
 simp only [jjl,beq_iff_eq] at h
 have e:lB (lg B k) =lA (lg B f) :=Prod.ext h.1 h.2
 rw [LT,decide_eq_true e,jjG]
theorem jgo (h: ((lg B k).bx== (lg B f).ax&& (lg B k).b_y== (lg B f).ay) =false) :false=LT B u f k:=by
 have e:¬lB (lg B k) =lA (lg B f) :=fun e=>by
  rw [show(lg B k).bx= (lg B f).ax from congrArg Prod.fst e,show(lg B k).b_y= (lg B f).ay from congrArg Prod.snd e] at h
  simp at h
 rw [LT,decide_eq_false e,jjU]
def msr (u:List Bool) (a:Option Nat) :Nat:=match a with
 | some _=>uq u+1
 | none=>0
theorem jdd (h:RunI B f u0 u k ps) (a:Option Nat) :msr (u.set k true) a<msr u (some k) :=by
 have:=h.pos
 cases a<;>simp only [msr] <;>omega
theorem GS (h:yP (kO B i).1 i=true) :kO B (i+1) =kO B i:=by
 rw [kO,if_pos h]
theorem EL (h:yP (kO B i).1 i=false) :kO B (i+1) = ((Ud B i (uq (kO B i).1) (kO B i).1 i []).1,(kO B i).2++ [(Ud B i (uq (kO B i).1) (kO B i).1 i []).2]) :=by
 rw [kO,if_neg (by rw [h];simp)]
theorem IB (A:Option Addr) (n c:Nat) (B:List Leg) (w:World) (h:Legs w A n B) (hB:BoOk B) :
  Calls Tryz.prog 189 #[.slice A n c] w fun e w'=>∃A' c',e= .returned (.slice A' (KJ B).length c')∧OwnG w.heap.size w'.heap.size w' A' (KJ B).length (KJ B)∧Over w w':=by
 have hl:=h.1
 have hn:=hB.len
 rw [hl] at hn
 have hok:=hB.ok
 refine j6 (m:=66) (Tryz.func189) J J (lb J) ?_;refine S9 ?_;refine C4 J J J Vg Yw J Dc Om Om (fun b1=> ?_);refine N2 ?_;refine DU 0 1 n (b:=b1) (U:=4) (cs:= (List.replicate n false).map Value.bool) (by rw [←jcr];simp) (by simp) Om ?_;refine t9 ?_;refine S3 ?_;refine Jy J J (Wv) J (lb J) (fun b2=> ?_);refine Wi 1 1 J J ?_;refine N2 ?_;refine Vz ?_;refine t9 ?_;refine S6 ?_;refine JX (X:=Nat×(Option Addr×Nat)×List Pc) (fun x=>x.1≤n∧x.2.2.map (·.xs) = (kO B x.1).2) (fun x=>n- x.1) (fun x=> [(4, .slice x.2.1.1 x.2.2.length x.2.1.2),(5, .int .i64 (x.1:Int))]) (kK [0,2,3]) (fun x=> [boR n (kO B x.1).1 (some ⟨b1,0,none⟩,n),J3 (Bs.N ⟨w,[]⟩) 74 1 x.2.2.length (x.2.2.map Pc.val) x.2.1,vF x.2.2]) (0,(some ⟨b2,0,none⟩,0),[]) (⟨jjo _,J⟩) ⟨J,sz⟩ (fun _ h=>by rw [show(kO B 0).1=List.replicate n false by rw [←hl];rfl];exact h) ?_
 intro⟨i,⟨rA,rc⟩,l⟩ hx L hL1
 refine v9 ?_;refine r9 ?_
 obtain ⟨hi,hmp⟩ :i≤n∧l.map (·.xs) = (kO B i).2:=hx
 have hul: (kO B i).1.length=n:= (by rw [Ys,hl])
 obtain ⟨tl1,tl2⟩ :=Yt (B:=B) i Om
 have hll:l.length≤4096:= (by have:=congrArg List.length hmp;rw [jjB] at this;omega)
 refine S8 ?_;refine cZ (fun c1=> ?_) (fun c1=> ?_)
 ·have hil:i<n:=Om
  refine S9 ?_;refine a9 (qQ (r:= (some ⟨b1,0,none⟩,n)) (j:=i) (fun w hs=> (hs.all 0 _ J).1) J J J Vg hil) ?_;refine a9 (jo J J QT (jf1 (r:= (some ⟨b1,0,none⟩,n)) (fun w hs=> (hs.all 0 _ J).1) Om)) ?_;refine S1 ?_;refine cZ (fun c2=> ?_) (fun c2=> ?_)
  ·refine S9 ?_
   exact Jq hL1 ((i+1,(rA,rc),l)) (⟨(show i+1≤n by omega),(by rw [GS c2];exact hmp)⟩) (by simp only;omega) ⟨J,vi Om,sz⟩ (fun _ h=>h.upto ⟨by rw [GS c2],sz⟩)
  ·obtain ⟨u0,hu0⟩ :∃u0,u0= (kO B i).1:=⟨_,rfl⟩
   have hst:yP u0 i=false:= (by rw [hu0];exact c2)
   obtain ⟨R,hR⟩ :∃R,R=Ud B i (uq u0) u0 i [] :=⟨_,rfl⟩
   have hnx:kO B (i+1) = (R.1,(kO B i).2++ [R.2]) := (by rw [EL c2,hR,hu0])
   rw [←hu0] at hul⊢
   obtain ⟨_,hRl⟩ :=Yt (B:=B) (i+1) Om
   have hRs:R.2.length≤4096:= (by have:= (hRl R.2 (by rw [hnx];simp)).2.1;omega)
   obtain ⟨eb,eo,rfl,_⟩ :=h.2 Om
   refine S4 ?_;refine a9 (JR J J (VZ)) ?_;refine S1 ?_;refine aL (fun b3=> ?_);refine N3 ?_;refine kt (T:=28) (s:=2) ?_;refine t9 ?_;refine S5 ?_;refine UC (X:= (Option Addr×Nat)×Int) (fun x=>True) (fun x=> [(7, .int .i64 x.2)]) (kK [0,2,3,4,5,12,13,14,15,18,19,20,21,22,6,23]) (fun x=> [boR n R.1 (some ⟨b1,0,none⟩,n),J3 (Bs.N ⟨w,[]⟩) 74 1 l.length (l.map Pc.val) (rA,rc),vF l, .cel b3 74 [.slice x.1.1 R.2.length x.1.2],J3 (Bs.N ⟨w,[]⟩) 28 2 R.2.length (R.2.flatMap Jr) x.1]) (fun L h_2=> ?_) ?_
   ·refine S1 ?_;refine JX (X:=List Bool×Option Nat×List Pn×Option Addr×Nat) (fun y=>RunX B i u0 y.1 y.2.1 y.2.2.1∧y.2.2.1.length+uq y.1≤4096) (fun y=>msr y.1 y.2.1) (fun y=> [(7, .int .i64 (zI y.2.1))]) (kK [0,2,3,4,5,12,13,14,15,18,19,20,21,22,6,23]) (fun y=> [boR n y.1 (some ⟨b1,0,none⟩,n),J3 (Bs.N ⟨w,[]⟩) 74 1 l.length (l.map Pc.val) (rA,rc),vF l, .cel b3 74 [.slice y.2.2.2.1 y.2.2.1.length y.2.2.2.2],J3 (Bs.N ⟨w,[]⟩) 28 2 y.2.2.1.length (y.2.2.1.flatMap Jr) y.2.2.2]) (u0,some i,[],none,0) (⟨RunI.start Om Om hst,(by have:=Ie u0;simp;omega)⟩) ⟨J,sz⟩ (fun _ h=>h) ?_
    intro⟨u,ao,ps,qA,qc⟩ hy L hL2
    refine v9 ?_;refine r9 ?_
    obtain ⟨hy1,hy2⟩ :RunX B i u0 u ao ps∧ps.length+uq u≤4096:=hy
    refine S6 ?_;refine cZ (fun c3=> ?_) (fun c3=> ?_)
    ·obtain ⟨k,rfl⟩ :=y6 c3
     have hI:RunI B i u0 u k ps:=hy1
     have hkB:=hI.la
     have hun:u.length=n:= (by rw [hI.len,hl])
     have hkn:k<n:=Om
     have hpos:=hI.pos
     refine S6 ?_;refine a9 ((ja J J).as (congrArg _ (show zI (some k) = ((k:Nat) :Int) from J))) ?_;refine a9 (qQ (r:= (some ⟨b1,0,none⟩,n)) (j:=k) (fun w hs=> (hs.all 0 _ J).1) J J J Vg hkn) ?_;refine S1 ?_;refine UT (k:=0) (r:= (some ⟨b1,0,none⟩,n)) (vs:= [.bool true]) J J J J (by rfl) (by rfl) Yw.szx J J (by simp) (by rw [jjB];simp only [jjr,jjK];omega) ?_;refine n9 ?_
     rw [jbP Om]
     refine S3 ?_;refine JS 8 ?_;refine dV 0 [1] ?_;refine dK 1 ?_;refine dV 2 [4,5,6,7] ?_;refine d9 3 J [4,5,6,7] (u9 J) ((ja J J).as (congrArg _ (show zI (some k) = ((k:Nat) :Int) from J))) ?_;refine d9 4 J [5,6,7] (u9 J) (jV (j:=k) J J J Ju Om) ?_;refine dV 5 [6,7] ?_;refine d9 6 J [7] (u9 J) (jl J J jk J (Qn (fun w' hs=>h.over hs.fin) hkn)) ?_;refine J7 (i:=7) J Dc Kr J ?_;refine Jy J J (qT J) J (lb J) (fun b4=> ?_);refine n9 ?_;refine JN (u9 J) ?_;refine KV J Kr J ?_;refine JY (k:=4) J jD jI Dc J Dc J J J (fun w' hs=>Qb hs (k:=5) J J) (by simp [Value.oneCell']) (by unfold maxLen;omega) Om (jjm _) (fun r1=> ?_);refine n9 ?_;refine Qv 11 [3] ?_;refine dK 9 ?_;refine J7 (i:=10) J Dc Kr J ?_;refine S1 ?_;refine JN (uw [3] J) ?_;refine JJ Kr ?_;refine S2 ?_;refine qt [(56, .bool (LT B (u.set k true) i k))] (kK [0,2,3,4,5,12,13,14,15,18,19,20,21,22,6,23,7,24,25,26,27,28,29,30,31,32,33,34,35,36,37,38]) (fun L h_12=> ?_) ?_
     ·refine S1 ?_;refine JS 18 ?_;refine dK 0 ?_;refine dZ 1 J ((ja J J).as (congrArg _ (show zI (some k) = ((k:Nat) :Int) from J))) ?_;refine dZ 2 J (jV (j:=k) J J J Ju Om) ?_;refine dK 3 ?_;refine dZ 4 J (jl J J jk J (q5 (fun w' hs=>h.over hs.fin) hkn)) ?_;refine dK 5 ?_;refine dK 6 ?_;refine dZ 7 J (jV (j:=i) J J J Ju Om) ?_;refine dK 8 ?_;refine dZ 9 J (jl J J jk J (Qn (fun w' hs=>h.over hs.fin) hil)) ?_;refine dK 10 ?_;refine dK 11 ?_;refine cV 50 (fun g1=> ?_) (fun g1=> ?_)
      ·refine eK 12 ?_;refine eK 13 ?_;refine eZ 14 J ((ja J J).as (congrArg _ (show zI (some k) = ((k:Nat) :Int) from J))) ?_;refine eK 15 ?_;refine eZ 16 J (jM Gt J J (fun w1 hs=>Dy _ n c B (some ⟨b1,0,none⟩,n) (u.set k true) k i w1 (h.over hs.fin) hok Om (hs.all 0 _ J).1 (by rw [jky];exact hun) hkn hil)) ?_;refine dK 17 ?_;refine JJ Kr ?_;refine S1 ?_
       exact Jo h_12 ⟨vb (jgn g1),sz⟩ (u9 J)
      ·refine fK 12 ?_;refine fK 13 ?_;refine fK 14 ?_;refine fK 15 ?_;refine fK 16 ?_;refine dK 17 ?_;refine JJ Kr ?_;refine S1 ?_
       exact Jo h_12 ⟨vb (jgo g1),sz⟩ (u9 J)
     ·refine v9 ?_;refine cZ (fun c4=> ?_) (fun c4=> ?_)
      ·have hRe:R= (u.set k true,ps++ [lA (lg B k)]) := (by rw [hR];exact hI.stop (jbm c4))
       refine S6 ?_
       exact ka h_2 ((r1,(k:Int))) (trivial) ⟨J,sz⟩ (fun _ h=> (h.picks [0,1,2,3,4] Dc).upto ⟨by rw [hRe],J,J,by rw [hRe,jjk];rfl,by rw [hRe,jjk,jjv];rfl,trivial⟩)
      ·refine S5 ?_;refine a9 ((ja J J).as (congrArg _ (show zI (some k) = ((k:Nat) :Int) from J))) ?_;refine a9 (jM zy J J (fun w1 hs=>LD _ n c B (some ⟨b1,0,none⟩,n) (u.set k true) k w1 (h.over hs.fin) hok Om (hs.all 0 _ J).1 (by rw [jky];exact hun) hkn)) ?_;refine S4 ?_
       exact Jq hL2 ((u.set k true,Ge B (u.set k true) k,ps++ [lA (lg B k)],r1)) (⟨RunX.go hI c4,(by simp only [jjk,jjr,jjK];omega)⟩) (jdd hI _) ⟨J,sz⟩ (fun _ h=> (h.picks [0,1,2,3,4] Dc).upto ⟨J,J,J,by rw [jjk];rfl,by rw [jjk,jjv];rfl,trivial⟩)
    ·obtain rfl:=y5 c3
     have hRe:R= (u,ps) := (by rw [hR];exact hy1.1)
     refine S5 ?_
     exact ka h_2 (((qA,qc),-1)) (trivial) ⟨J,sz⟩ (fun _ h=> (h.picks [0,1,2,3,4] Dc).upto ⟨by rw [hRe],J,J,by rw [hRe],by rw [hRe],trivial⟩)
   ·rintro⟨⟨pA,pc⟩,_⟩ -
    refine v9 ?_;refine r9 ?_;refine S4 ?_;refine Jy J J (qz J) J (lb J) (fun b5=> ?_);refine N1 ?_;refine JY (k:=1) J jJ Jw Dc J Dc J J J (fun w' hs=>Qb hs (k:=5) J J) (by simp [Value.oneCell']) (by unfold maxLen;omega) Om (jjm _) (fun r2=> ?_);refine N2 ?_;refine zR 4 J J (fun clo chi=> ?_);refine t9 ?_;refine wt 2 4 J J Dc J ?_;refine t9 ?_;refine S7 ?_
    exact Jq hL1 ((i+1,r2,l++ [⟨R.2,pA,pc,clo,chi⟩])) (⟨(show i+1≤n by omega),(by rw [jjQ,hmp,hnx];rfl)⟩) (by simp only;omega) ⟨(by rw [jjk];rfl),vi Om,sz⟩ (fun _ h=>h.upto ⟨by rw [hnx],by rw [jjk,jjQ];rfl,(vo _ _).symm,trivial⟩)
 ·have hin:i=n:=Om
  have htr:l.map (·.xs) =KJ B:= (by rw [hmp,hin,←hl];rfl)
  have htl: (KJ B).length=l.length:= (by rw [←htr,jjB])
  refine S11 ?_;refine jK J (.tmp J) ?_
  intro w' hs
  exact⟨rA,rc,by rw [htl],by rw [htl];exact Yo hs (kr:=1) (kp:=2) rfl rfl Dc rfl rfl htr (fun j hj=>by rw [←wu hj];have:= (tl2 _ (by rw [←hmp,htr];exact jju hj)).2.1;omega),hs.fin⟩
end Go.Proofs.YtbahojdbmmjkcaaGreat
