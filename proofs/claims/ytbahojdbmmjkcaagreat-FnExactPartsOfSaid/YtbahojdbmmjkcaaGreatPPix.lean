import Derived.Test.YtbahojdbmmjkcaaGreatPMem
import Derived.Test.YtbahojdbmmjkcaaGreatPDat
import Derived.Test.YtbahojdbmmjkcaaGreatPL2
set_option linter.unusedVariables false
set_option linter.unusedSimpArgs false
namespace Go.Proofs.YtbahojdbmmjkcaaGreat
open Go Go.RowKit
set_option maxRecDepth 100000
set_option maxHeartbeats 4000000
structure Sp where
 ln:Int
 ld:Int
 lc:Bool
 hn:Int
 hd:Int
 hc:Bool
def Wi:Sp:=⟨0,1,true,1,1,true⟩
def K5 (s:Sp) :Bool:=decide (s.ln*s.hd- s.hn*s.ld<0) || (decide (s.ln*s.hd- s.hn*s.ld=0) &&s.lc&&s.hc)
def uj (s x:Sp) :Bool:=decide (s.ln*x.ld- x.ln*s.ld<0) || (decide (s.ln*x.ld- x.ln*s.ld=0) && !x.lc)
def wn (s x:Sp) :Bool:=decide (s.hn*x.hd- x.hn*s.hd>0) || (decide (s.hn*x.hd- x.hn*s.hd=0) && !x.hc)
def qN (s x:Sp) :Sp:=if uj s x=true then {s with ln:=x.ln,ld:=x.ld,lc:=x.lc} else s
def QV (s x:Sp) :Sp:=if wn s x=true then {s with hn:=x.hn,hd:=x.hd,hc:=x.hc} else s
def J3 (s x:Sp) :Sp:=QV (qN s x) x
theorem vM {a b c d e f:Int} (hd:0<d) (hb:0<b) (hf:0<f) (h1:a*d≤c*b) (h2:c*f≤e*d) :a*f≤e*b:=by
 have p1:=jgz h1 (jhQ hf)
 have p2:=jgz h2 (jhQ hb)
 have e1:a*d*f=a*f*d:=by rw [jhv,jha d f,←jhv]
 have e2:c*b*f=c*f*b:=by rw [jhv,jha b f,←jhv]
 have e3:e*d*b=e*b*d:=by rw [jhv,jha d b,←jhv]
 rw [e1,e2] at p1
 rw [e3] at p2
 exact jg8 (jhA p1 p2) hd
theorem Vq {a b c d e f:Int} (hd:0<d) (hb:0<b) (hf:0<f) (h1:a*d<c*b) (h2:c*f≤e*d) :a*f<e*b:=by
 have p1:=jg6 h1 hf
 have p2:=jgz h2 (jhQ hb)
 have e1:a*d*f=a*f*d:=by rw [jhv,jha d f,←jhv]
 have e2:c*b*f=c*f*b:=by rw [jhv,jha b f,←jhv]
 have e3:e*d*b=e*b*d:=by rw [jhv,jha d b,←jhv]
 rw [e1,e2] at p1
 rw [e3] at p2
 exact jhl (Int.lt_of_lt_of_le p1 p2) (jhQ hd)
theorem KZ {a b c d e f:Int} (hd:0<d) (hb:0<b) (hf:0<f) (h1:a*d≤c*b) (h2:c*f<e*d) :a*f<e*b:=by
 have p1:=jgz h1 (jhQ hf)
 have p2:=jg6 h2 hb
 have e1:a*d*f=a*f*d:=by rw [jhv,jha d f,←jhv]
 have e2:c*b*f=c*f*b:=by rw [jhv,jha b f,←jhv]
 have e3:e*d*b=e*b*d:=by rw [jhv,jha d b,←jhv]
 rw [e1,e2] at p1
 rw [e3] at p2
 exact jhl (Int.lt_of_le_of_lt p1 p2) (jhQ hd)
theorem jbg {s x:Sp} (h1:0<s.ld) (h2:0<s.hd) (h3:0<x.ld) (h:K5 (qN s x) =true) :K5 s=true:=by
 unfold qN at h
 split at h
 case isFalse=>exact h
 case isTrue hu=>
  simp only [K5,uj,jhg,jgy,decide_eq_true_eq,jhe] at*
  obtain ⟨sln,sld,slc,shn,shd,shc⟩ :=s
  obtain ⟨xln,xld,xlc,xhn,xhd,xhc⟩ :=x
  simp only at*
  rcases hu with hu |⟨hu,hx⟩
  ·left
   have:sln*shd<shn*sld:=by
    rcases h with h | h
    ·exact KZ (d:=xld) (c:=xln) h3 h1 h2 Om Om
    ·exact Vq (d:=xld) (c:=xln) h3 h1 h2 Om Om
   omega
  ·rcases h with h |⟨⟨h,h'⟩,_⟩
   ·left
    have:sln*shd<shn*sld:=KZ (d:=xld) (c:=xln) h3 h1 h2 Om Om
    omega
   ·rw [hx] at h';cases h'
theorem Cy {s x:Sp} (h1:0<s.ld) (h2:0<s.hd) (h3:0<x.hd) (h:K5 (QV s x) =true) :K5 s=true:=by
 unfold QV at h
 split at h
 case isFalse=>exact h
 case isTrue hu=>
  simp only [K5,wn,jhg,jgy,decide_eq_true_eq,jhe] at*
  obtain ⟨sln,sld,slc,shn,shd,shc⟩ :=s
  obtain ⟨xln,xld,xlc,xhn,xhd,xhc⟩ :=x
  simp only at*
  rcases hu with hu |⟨hu,hx⟩
  ·left
   have:sln*shd<shn*sld:=by
    rcases h with h | h
    ·exact Vq (d:=xhd) (c:=xhn) h3 h1 h2 Om Om
    ·exact KZ (d:=xhd) (c:=xhn) h3 h1 h2 Om Om
   omega
  ·rcases h with h |⟨⟨h,_⟩,h'⟩
   ·left
    have:sln*shd<shn*sld:=Vq (d:=xhd) (c:=xhn) h3 h1 h2 Om Om
    omega
   ·rw [hx] at h';cases h'
def QD (f d lo:Int) :Sp:=if 0<d then⟨lo- f,d,true,lo+2- f,d,false⟩ else if d<0 then⟨f- lo- 2,-d,false,f- lo,-d,true⟩ else Wi
def Kk (f d lo:Int) :Bool:= !decide (d=0) || (decide (lo≤f) &&decide (f<lo+2))
def VE (s:Sp) (f d lo:Int) :Sp:=if d=0 then s else J3 s (QD f d lo)
def ud (s:Sp) (f d lo:Int) :Bool:=if d=0 then decide (lo≤f) &&decide (f<lo+2) else K5 (J3 s (QD f d lo))
theorem kB (f d lo:Int) :0< (QD f d lo).ld∧0< (QD f d lo).hd:=by
 unfold QD
 split
 ·exact⟨by assumption,by assumption⟩
 ·split
  ·exact⟨by simp;omega,by simp;omega⟩
  ·exact⟨by decide,by decide⟩
theorem YZ {s x:Sp} (h:0<s.ld∧0<s.hd) (hx:0<x.ld∧0<x.hd) :0< (qN s x).ld∧0< (qN s x).hd:=by
 unfold qN;split
 ·exact⟨hx.1,h.2⟩
 ·exact h
theorem Ku {s x:Sp} (h:0<s.ld∧0<s.hd) (hx:0<x.ld∧0<x.hd) :0< (J3 s x).ld∧0< (J3 s x).hd:=by
 have h':=YZ h hx
 unfold J3 QV;split
 ·exact⟨h'.1,hx.2⟩
 ·exact h'
theorem uu:0<Wi.ld∧0<Wi.hd:=⟨by decide,by decide⟩
theorem Cz {s x:Sp} (h:0<s.ld∧0<s.hd) (hx:0<x.ld∧0<x.hd) (hn:K5 (J3 s x) =true) :K5 s=true:=by
 have h':=YZ h hx
 exact jbg h.1 h.2 hx.1 (Cy h'.1 h'.2 hx.2 hn)
def Dm (s:Sp) :Prop:=0≤s.ln∧s.hn≤s.hd
theorem Dn {x:Sp} :Dm (J3 Wi x) :=by
 unfold Dm J3 QV qN wn uj Wi
 constructor
 ·split<;>split<;>simp_all<;>omega
 ·split<;>split<;>simp_all<;>omega
theorem RB {s:Sp} (h:Dm s) :J3 s Wi=s:=by
 obtain ⟨h1,h2⟩ :=h
 have e1:uj s Wi=false:=by simp [uj,Wi];omega
 have e2:wn s Wi=false:=by simp [wn,Wi];omega
 have e3:qN s Wi=s:=by rw [qN,e1];rfl
 rw [J3,e3,QV,e2];rfl
theorem MV:Dm Wi:=⟨by decide,by decide⟩
def xt (f d lo f' d' lo':Int) :Bool:=Kk f d lo&&Kk f' d' lo'&&K5 (J3 (J3 Wi (QD f d lo)) (QD f' d' lo'))
theorem Vx (f lo:Int) :QD f 0 lo=Wi:=by simp [QD]
theorem LK {s:Sp} (h:Dm s) (f d lo:Int) :VE s f d lo=J3 s (QD f d lo) :=by
 unfold VE
 split
 ·rename_i h0;subst h0;rw [Vx,RB h]
 ·rfl
theorem IG {s:Sp} (h:Dm s) (hn:K5 s=true) (f d lo:Int) :ud s f d lo= (Kk f d lo&&K5 (J3 s (QD f d lo))) :=by
 unfold ud Kk
 split
 ·rename_i h0;subst h0;rw [Vx,RB h,hn];simp
 ·rename_i h0;simp [h0]
theorem II (f d lo f' d' lo':Int) :xt f d lo f' d' lo'= (ud Wi f d lo&&ud (VE Wi f d lo) f' d' lo') :=by
 have hn0:K5 Wi=true:=by decide
 rw [LK MV,IG MV hn0,xt]
 cases h1:Kk f d lo
 ·simp
 ·cases h2:K5 (J3 Wi (QD f d lo))
  ·have:K5 (J3 (J3 Wi (QD f d lo)) (QD f' d' lo')) =false:=by
    cases h3:K5 (J3 (J3 Wi (QD f d lo)) (QD f' d' lo'))
    ·rfl
    ·have:=Cz (Ku uu (kB _ _ _)) (kB _ _ _) h3
     rw [h2] at this;cases this
   simp [this]
  ·rw [IG Dn h2]
   simp
abbrev bdV (n d:Int) (c:Bool) :Value:= .agg #[.int .i64 n, .int .i64 d, .bool c]
def bd1 (n d:Int) :Prop:= (-2097152≤n∧n≤2097152)∧-2097152≤d∧d≤2097152
theorem Vo (n d n' d':Int) (c c':Bool) (w:World) (h:bd1 n d) (h':bd1 n' d') :
  Calls Tryz.prog 175 #[bdV n d c,bdV n' d' c'] w fun e w'=>e= .returned (.int .i64 (wZ (n*d'- n'*d)))∧Over w w':=by
 obtain ⟨⟨a1,a2⟩,a3,a4⟩ :=h
 obtain ⟨⟨b1,b2⟩,b3,b4⟩ :=h'
 obtain ⟨m1,m1'⟩ :=Qr a1 a2 b3 b4
 obtain ⟨m2,m2'⟩ :=Qr b1 b2 a3 a4
 refine jT (m:=17) (Tryz.func175) J J (lb J) ?_;refine S3 ?_;refine aX (fun b1=> ?_);refine N1 ?_;refine aX (fun b2=> ?_);refine N15 ?_;refine a9 (jJ QM J J (fun w h=> (kX _ w).mono fun e w' ⟨he,hw⟩ =>⟨he,hw▸Over.refl _⟩)) ?_;refine S3 ?_;refine jL J (.tmp J) ?_
 intro w' hs
 exact⟨rfl,hs.fin⟩
def C8 (s:Sp) :List Value:= [.int .i64 s.ln, .int .i64 s.ld, .bool s.lc, .int .i64 s.hn, .int .i64 s.hd, .bool s.hc]
structure bdP (s:Sp) :Prop where
 low:bd1 s.ln s.ld
 high:bd1 s.hn s.hd
theorem zI (f d lo:Int) (f1: -524288≤f) (f2:f≤524288) (d1: -1048576≤d) (d2:d≤1048576) (l1: -524289≤lo) (l2:lo≤524289) :bdP (QD f d lo) :=by
 unfold QD
 split
 ·exact⟨⟨⟨by simp;omega,by simp;omega⟩,by simp;omega,by simp;omega⟩,⟨by simp;omega,by simp;omega⟩,by simp;omega,by simp;omega⟩
 ·split
  ·exact⟨⟨⟨by simp;omega,by simp;omega⟩,by simp;omega,by simp;omega⟩,⟨by simp;omega,by simp;omega⟩,by simp;omega,by simp;omega⟩
  ·exact⟨⟨⟨by decide,by decide⟩,by decide,by decide⟩,⟨by decide,by decide⟩,by decide,by decide⟩
theorem wg {s x:Sp} (hs:bdP s) (hx:bdP x) :bdP (qN s x) :=by
 unfold qN;split
 ·exact⟨hx.low,hs.high⟩
 ·exact hs
theorem wy {s x:Sp} (hs:bdP s) (hx:bdP x) :bdP (QV s x) :=by
 unfold QV;split
 ·exact⟨hs.low,hx.high⟩
 ·exact hs
theorem PA {n:Int} : (wZ n<0)↔n<0:=by unfold wZ;split<;> (try split) <;>omega
theorem va (n:Int) : (n<0∧wZ n= -1)∨(n=0∧wZ n=0)∨(0<n∧wZ n=1) :=by unfold wZ;split<;> (try split) <;>omega
theorem IH (b:Nat) (s:Sp) (f d lo:Int) (w:World) (hs:bdP s) (f1: -524288≤f) (f2:f≤524288) (d1: -1048576≤d) (d2:d≤1048576) (l1: -524289≤lo) (l2:lo≤524289)
  (hh:w.heap[b]? =some (.cells (C8 s).toArray 206 (0,0))) :
  Calls Tryz.prog 228 #[.pointer (some ⟨b,0,none⟩), .int .i64 f, .int .i64 d, .int .i64 lo] w fun e w'=>e= .returned (.bool (ud s f d lo))∧Wr b w w'∧w'.heap[b]? =some (.cells (C8 (VE s f d lo)).toArray 206 (0,0)) :=by
 have hx:=zI f d lo f1 f2 d1 d2 l1 l2
 obtain ⟨x,ex⟩ :∃x,QD f d lo=x:=⟨_,rfl⟩
 rw [ex] at hx
 have hs1:=wg hs hx
 have hs2:=wy hs1 hx
 obtain ⟨x1,x2⟩ :=hx
 obtain ⟨y1,y2⟩ :=hs
 obtain ⟨z1,z2⟩ :=hs1
 obtain ⟨u1,u2⟩ :=hs2
 refine QF (m:=122) (Tryz.func228) J J (lb J) (hh) ?_;refine S10 ?_;refine cZ (fun c1=> ?_) (fun c1=> ?_)
 ·refine S6 ?_;refine cV 19 (fun g1=> ?_) (fun g1=> ?_)
  ·refine S13 ?_;refine jL J (.tmp J) ?_
   intro w' hs
   exact⟨by subst c1;simp [ud,g1],hs.over.wr,by subst c1;simpa [VE] using hs.cel (k:=0) rfl⟩
  ·refine S9 ?_;refine jL J (.tmp J) ?_
   intro w' hs
   exact⟨by subst c1;simp [ud];omega,hs.over.wr,by subst c1;simpa [VE] using hs.cel (k:=0) rfl⟩
 ·refine S8 ?_;refine a9 (J0 J J (QT J J J)) ?_;refine S5 ?_;refine a9 (J0 J J (QT J J J)) ?_;refine S1 ?_;refine aL (fun b1=> ?_);refine N1 ?_;refine aL (fun b2=> ?_);refine N5 ?_;refine Wu [] ([.cel b 206 (C8 s), .cel b1 204 [.int .i64 x.ln, .int .i64 x.ld, .bool x.lc], .cel b2 204 [.int .i64 x.hn, .int .i64 x.hd, .bool x.hc]]) (kK [0,8,9,10]) (fun L h_t37=> ?_) ?_
  ·refine S5 ?_;refine cZ (fun c2=> ?_) (fun c2=> ?_)
   ·refine S6 ?_;refine a9 (za J J Om Om) ?_;refine a9 (J0 J J (QT J J J)) ?_;refine S4 ?_;refine a9 (za J J Om Om) ?_;refine a9 (J0 J J (QT J J J)) ?_;refine S5 ?_
    exact Jr h_t37 ⟨J,sz⟩ (fun _ h=>h.upto ⟨J,by rw [←ex,QD,if_neg Om,if_pos c2] <;>rfl,by rw [←ex,QD,if_neg Om,if_pos c2] <;>rfl,trivial⟩)
   ·refine S2 ?_
    exact Jr h_t37 ⟨J,sz⟩ (fun _ h=>h.upto ⟨J,by rw [←ex,QD,if_pos Om] <;>rfl,by rw [←ex,QD,if_pos Om] <;>rfl,trivial⟩)
  ·refine v9 ?_;refine Wu [] ([.cel b 206 (C8 (qN s x)), .cel b1 204 [.int .i64 x.ln, .int .i64 x.ld, .bool x.lc], .cel b2 204 [.int .i64 x.hn, .int .i64 x.hd, .bool x.hc]]) (kK [0,8,10]) (fun L h_t67=> ?_) ?_
   ·refine S2 ?_;refine JS 7 ?_;refine dK 0 ?_;refine dK 1 ?_;refine dK 2 ?_;refine dK 3 ?_;refine dK 4 ?_;refine dZ 5 J (jJ KH J J (fun w h=>Vo _ _ _ _ _ _ w (by assumption) (by assumption))) ?_;refine dK 6 ?_;refine JI Kr ?_;refine S1 ?_;refine qn [(67, .bool (uj s x))] (kK [0,8,9,10]) (fun L h_7=> ?_) ?_
    ·refine S4 ?_;refine cV 59 (fun g2=> ?_) (fun g2=> ?_)
     ·refine S9 ?_
      exact Jr h_7 ⟨vb (by have k:=va (x.ln*s.ld- s.ln*x.ld);symm;simp [uj];omega),sz⟩ (u9 rfl)
     ·refine S6 ?_;refine cV 62 (fun g3=> ?_) (fun g3=> ?_)
      ·refine S10 ?_
       exact Jr h_7 ⟨vb (by have k:=va (x.ln*s.ld- s.ln*x.ld);have e:s.ln*x.ld- x.ln*s.ld=0:=Om;simp [uj,e]),sz⟩ (u9 rfl)
      ·refine S7 ?_
       exact Jr h_7 ⟨vb (by have k:=va (x.ln*s.ld- s.ln*x.ld);symm;simp [uj];omega),sz⟩ (u9 rfl)
    ·refine v9 ?_;refine cZ (fun c3=> ?_) (fun c3=> ?_)
     ·refine S6 ?_;refine Mv (k:=0) J J J J (J) (by rfl) kD.szx J ?_;refine N1 ?_
      exact Jr h_t67 ⟨J,sz⟩ (fun _ h=>h.upto ⟨by rw [qN,if_pos c3] <;>rfl,sz⟩)
     ·refine S2 ?_
      exact Jr h_t67 ⟨J,sz⟩ (fun _ h=>h.upto ⟨by rw [qN,c3] <;>rfl,sz⟩)
   ·refine v9 ?_;refine Wu [] ([.cel b 206 (C8 (J3 s x)), .cel b1 204 [.int .i64 x.ln, .int .i64 x.ld, .bool x.lc], .cel b2 204 [.int .i64 x.hn, .int .i64 x.hd, .bool x.hc]]) (kK [0,8]) (fun L h_t88=> ?_) ?_
    ·refine S2 ?_;refine JS 7 ?_;refine dK 0 ?_;refine dK 1 ?_;refine dK 2 ?_;refine dK 3 ?_;refine dK 4 ?_;refine dZ 5 J (jJ KH J J (fun w h=>Vo _ _ _ _ _ _ w (by assumption) (by assumption))) ?_;refine dK 6 ?_;refine JI Kr ?_;refine S1 ?_;refine qn [(88, .bool (wn (qN s x) x))] (kK [0,8,10]) (fun L h_10=> ?_) ?_
     ·refine S4 ?_;refine cV 80 (fun g4=> ?_) (fun g4=> ?_)
      ·refine S9 ?_
       exact Jr h_10 ⟨vb (by have k:=va (x.hn* (qN s x).hd- (qN s x).hn*x.hd);symm;simp [wn];omega),sz⟩ (u9 rfl)
      ·refine S6 ?_;refine cV 83 (fun g5=> ?_) (fun g5=> ?_)
       ·refine S10 ?_
        exact Jr h_10 ⟨vb (by have k:=va (x.hn* (qN s x).hd- (qN s x).hn*x.hd);have e: (qN s x).hn*x.hd- x.hn* (qN s x).hd=0:=Om;simp [wn,e]),sz⟩ (u9 rfl)
       ·refine S7 ?_
        exact Jr h_10 ⟨vb (by have k:=va (x.hn* (qN s x).hd- (qN s x).hn*x.hd);symm;simp [wn];omega),sz⟩ (u9 rfl)
     ·refine v9 ?_;refine cZ (fun c4=> ?_) (fun c4=> ?_)
      ·refine S6 ?_;refine Mz (k:=0) J J J J (J) (by rfl) kD.szx J ?_;refine N1 ?_
       exact Jr h_t88 ⟨J,sz⟩ (fun _ h=>h.upto ⟨by rw [J3,QV,if_pos c4] <;>rfl,sz⟩)
      ·refine S2 ?_
       exact Jr h_t88 ⟨J,sz⟩ (fun _ h=>h.upto ⟨by rw [J3,QV,c4] <;>rfl,sz⟩)
    ·refine V2 ?_;refine JS 10 ?_;refine dK 0 ?_;refine dK 1 ?_;refine dK 2 ?_;refine dK 3 ?_;refine dK 4 ?_;refine dK 5 ?_;refine dK 6 ?_;refine dK 7 ?_;refine dZ 8 J (jJ KH J J (fun w h=>Vo _ _ _ _ _ _ w (by assumption) (by assumption))) ?_;refine dK 9 ?_;refine JI Kr ?_;refine S6 ?_;refine cV 104 (fun g6=> ?_) (fun g6=> ?_)
     ·refine S20 ?_;refine jL J (.tmp J) ?_
      intro w' hs
      have k:=va ((J3 s x).ln* (J3 s x).hd- (J3 s x).hn* (J3 s x).ld)
      exact⟨Qs (by rw [ud,if_neg c1,ex];symm;simp [K5];omega),hs.over.wr,by rw [VE,if_neg c1,ex];exact hs.cel (k:=0) rfl⟩
     ·refine S6 ?_;refine cV 107 (fun g7=> ?_) (fun g7=> ?_)
      ·refine S14 ?_;refine cV 114 (fun g8=> ?_) (fun g8=> ?_)
       ·refine S16 ?_;refine jL J (.tmp J) ?_
        intro w' hs
        have k:=va ((J3 s x).ln* (J3 s x).hd- (J3 s x).hn* (J3 s x).ld)
        have e: (J3 s x).ln* (J3 s x).hd- (J3 s x).hn* (J3 s x).ld=0:=Om
        exact⟨Qs (by rw [ud,if_neg c1,ex];simp [K5,e, *]),hs.over.wr,by rw [VE,if_neg c1,ex];exact hs.cel (k:=0) rfl⟩
       ·refine S11 ?_;refine jL J (.tmp J) ?_
        intro w' hs
        have k:=va ((J3 s x).ln* (J3 s x).hd- (J3 s x).hn* (J3 s x).ld)
        have e: (J3 s x).ln* (J3 s x).hd- (J3 s x).hn* (J3 s x).ld=0:=Om
        exact⟨Qs (by rw [ud,if_neg c1,ex];simp [K5,e, *]),hs.over.wr,by rw [VE,if_neg c1,ex];exact hs.cel (k:=0) rfl⟩
      ·refine S20 ?_;refine jL J (.tmp J) ?_
       intro w' hs
       have k:=va ((J3 s x).ln* (J3 s x).hd- (J3 s x).hn* (J3 s x).ld)
       exact⟨Qs (by rw [ud,if_neg c1,ex];symm;simp [K5];omega),hs.over.wr,by rw [VE,if_neg c1,ex];exact hs.cel (k:=0) rfl⟩
abbrev jey (s:Sp) :Value:= .agg #[.int .i64 s.ln, .int .i64 s.ld, .bool s.lc, .int .i64 s.hn, .int .i64 s.hd, .bool s.hc]
theorem MU:bdP Wi:=⟨⟨by decide,by decide⟩,by decide,by decide⟩
theorem ET {s:Sp} {f d lo:Int} (hs:bdP s) (hx:bdP (QD f d lo)) :bdP (VE s f d lo) :=by
 unfold VE;split
 ·exact hs
 ·exact wy (wg hs hx) hx
theorem O1 (ax ay bx b_y px_ py_:Int) (w:World) (ha:wF ax ay=true) (hb:wF bx b_y=true) (hp:wF px_ py_=true) :
  Calls Tryz.prog 172 #[WH ax ay,WH bx b_y,WH px_ py_] w fun e w'=>e= .returned (.tuple #[jey (if ud Wi (2*ax) (2* (bx- ax)) (2*px_- 1) =true then VE (VE Wi (2*ax) (2* (bx- ax)) (2*px_- 1)) (2*ay) (2* (b_y- ay)) (2*py_- 1) else VE Wi (2*ax) (2* (bx- ax)) (2*px_- 1)),
   .bool (ud Wi (2*ax) (2* (bx- ax)) (2*px_- 1) &&ud (VE Wi (2*ax) (2* (bx- ax)) (2*px_- 1)) (2*ay) (2* (b_y- ay)) (2*py_- 1))])∧Over w w':=by
 simp [wF,Z7] at ha hb hp
 have hs1:=ET (f:=2*ax) (d:=2* (bx- ax)) (lo:=2*px_- 1) MU (zI _ _ _ Om Om Om Om Om Om)
 refine jT (m:=45) (Tryz.func172) J J (lb J) ?_;refine S3 ?_;refine aX (fun b1=> ?_);refine N1 ?_;refine aX (fun b2=> ?_);refine N1 ?_;refine aX (fun b3=> ?_);refine N1 ?_;refine aL (fun b4=> ?_);refine N4 ?_;refine a9 (J0 J J (QT J J J)) ?_;refine a9 (J0 J J (QT J J J)) ?_;refine a9 (J0 J J (yw J J)) ?_;refine S1 ?_;refine aL (fun b5=> ?_);refine N4 ?_;refine jfD (Rs':= [.cel b1 28 [.int .i64 ax, .int .i64 ay], .cel b2 28 [.int .i64 bx, .int .i64 b_y], .cel b3 28 [.int .i64 px_, .int .i64 py_], .cel b4 206 [.int .i64 0, .int .i64 0, .bool false, .int .i64 0, .int .i64 0, .bool false], .cel b5 206 (C8 Wi)]) (fun _ h=>h) ?_;refine S15 ?_;refine Qp (k:=4) VT J J J Dc J (fun w h=>IH b5 Wi (2*ax) (2* (bx- ax)) (2*px_- 1) w MU Om Om Om Om Om Om (h.cel (k:=4) J)) ?_;refine N1 ?_;refine cV 27 (fun g1=> ?_) (fun g1=> ?_)
 ·refine S27 ?_;refine Qp (k:=4) VT J J J Dc J (fun w h=>IH b5 (VE Wi (2*ax) (2* (bx- ax)) (2*px_- 1)) (2*ay) (2* (b_y- ay)) (2*py_- 1) w hs1 Om Om Om Om Om Om (h.cel (k:=4) J)) ?_;refine N12 ?_;refine qo J (qh (k:=3) J vt J J) (.tmp J) ?_
  intro w' hs
  exact⟨by rw [if_pos g1,g1,jg2];rfl,hs.fin⟩
 ·refine S26 ?_;refine qo J (qh (k:=3) J vt J J) (.tmp J) ?_
  intro w' hs
  exact⟨by rw [if_neg (by rw [g1];simp),g1,jhd];rfl,hs.fin⟩
abbrev C9 (s:Sp) :Value:= .agg #[.int .i64 s.ln, .int .i64 s.ld, .int .i64 s.hn, .int .i64 s.hd, .bool s.lc, .bool s.hc]
def spC (s:Sp) :List Value:= [.int .i64 s.ln, .int .i64 s.ld, .int .i64 s.hn, .int .i64 s.hd, .bool s.lc, .bool s.hc]
theorem GM (f d lo hi:Int) (w:World) (hh:hi=lo+2) (f1: -1048576≤f) (f2:f≤1048576) (d1: -1048576≤d) (d2:d≤1048576) (l1: -1048576≤lo) (l2:lo≤1048576) :
  Calls Tryz.prog 272 #[.int .i64 f, .int .i64 d, .int .i64 lo, .int .i64 hi] w fun e w'=>e= .returned (.tuple #[C9 (QD f d lo), .bool (Kk f d lo)])∧Over w w':=by
 subst hh
 have tv:∀ {s s':Sp} {a a':Bool},s'=s→a'=a→Ending.returned (.tuple #[C9 s, .bool a]) =Ending.returned (.tuple #[C9 s', .bool a']) :=fun h1 h2=>by rw [h1,h2]
 refine jT (m:=45) (Tryz.func272) J J (lb J) ?_;refine S3 ?_;refine aL (fun b1=> ?_);refine N10 ?_;refine cZ (fun c1=> ?_) (fun c1=> ?_)
 ·refine S10 ?_;refine a9 (J0 J J (uD J J J J J)) ?_;refine S7 ?_;refine qo J (qh (k:=0) J qk J J) (.tmp J) ?_
  intro w' hs
  exact⟨tv (s:=⟨lo- f,d,true,lo+2- f,d,false⟩) (by rw [QD,if_pos c1]) (by simp [Kk];omega),hs.fin⟩
 ·refine S6 ?_;refine cZ (fun c2=> ?_) (fun c2=> ?_)
  ·refine S6 ?_;refine a9 (za J J Om Om) ?_;refine S4 ?_;refine a9 (za J J Om Om) ?_;refine a9 (J0 J J (uE J J J J J)) ?_;refine S7 ?_;refine qo J (qh (k:=0) J qk J J) (.tmp J) ?_
   intro w' hs
   exact⟨tv (s:=⟨f- (lo+2),-d,false,f- lo,-d,true⟩) (by rw [QD,if_neg Om,if_pos c2];congr 1;omega) (by simp [Kk];omega),hs.fin⟩
  ·refine S5 ?_;refine a9 (J0 J J (vw J J J J J J)) ?_;refine S4 ?_;refine cV 40 (fun g1=> ?_) (fun g1=> ?_)
   ·refine S12 ?_;refine qo J (qh (k:=0) J qk J J) (.tmp J) ?_
    intro w' hs
    exact⟨tv (s:=Wi) (by rw [QD,if_neg Om,if_neg Om]) (by simp [Kk,show d=0 by omega,g1]),hs.fin⟩
   ·refine S9 ?_;refine qo J (qh (k:=0) J qk J J) (.tmp J) ?_
    intro w' hs
    exact⟨tv (s:=Wi) (by rw [QD,if_neg Om,if_neg Om]) (by simp [Kk,show d=0 by omega];omega),hs.fin⟩
theorem Dx {a b c d:Int} (h:bd1 a b) (k:bd1 c d) : (-4398046511104≤a*d∧a*d≤4398046511104)∧(-4398046511104≤c*b∧c*b≤4398046511104) :=by
 obtain ⟨⟨a1,a2⟩,a3,a4⟩ :=h
 obtain ⟨⟨b1,b2⟩,b3,b4⟩ :=k
 exact⟨Qr a1 a2 b3 b4,Qr b1 b2 a3 a4⟩
theorem GN (s x:Sp) (w:World) (hs:bdP s) (hx:bdP x) :
  Calls Tryz.prog 273 #[C9 s,C9 x] w fun e w'=>e= .returned (C9 (J3 s x))∧Over w w':=by
 have hs1:=wg hs hx
 obtain ⟨m1,m2⟩ :=Dx hs.low hx.low
 obtain ⟨m3,m4⟩ :=Dx hs1.high hx.high
 refine jT (m:=70) (Tryz.func273) J J (lb J) ?_;refine S3 ?_;refine aX (fun b1=> ?_);refine N1 ?_;refine aX (fun b2=> ?_);refine N1 ?_;refine aL (fun b3=> ?_);refine N16 ?_;refine Wu [] ([.cel b1 273 (spC (qN s x)), .cel b2 273 (spC x), .cel b3 273 [.int .i64 0, .int .i64 0, .int .i64 0, .int .i64 0, .bool false, .bool false]]) (kK [2,3,4]) (fun L h_t28=> ?_) ?_
 ·refine qn [(28, .bool (uj s x))] (kK [2,3,4]) (fun L h_2=> ?_) ?_
  ·refine S4 ?_;refine cV 20 (fun g1=> ?_) (fun g1=> ?_)
   ·refine S9 ?_
    exact Jr h_2 ⟨vb (by symm;simp [uj];omega),sz⟩ (u9 J)
   ·refine S6 ?_;refine cV 23 (fun g2=> ?_) (fun g2=> ?_)
    ·refine S10 ?_
     exact Jr h_2 ⟨vb (by simp [uj,g2]),sz⟩ (u9 J)
    ·refine S7 ?_
     exact Jr h_2 ⟨vb (by symm;simp [uj];omega),sz⟩ (u9 J)
  ·refine v9 ?_;refine cZ (fun c1=> ?_) (fun c1=> ?_)
   ·refine S6 ?_;refine Mu (k:=0) J J J J (J) (by rfl) QI.szx J ?_;refine N7 ?_;refine Mw (k:=0) J J J J (J) (by rfl) QI.szx J ?_;refine N6 ?_;refine MA (k:=0) J J J J (J) (by rfl) yk.szx J ?_;refine N1 ?_
    exact Jr h_t28 ⟨J,sz⟩ (fun _ h=>h.upto ⟨by rw [qN,if_pos c1] <;>rfl,sz⟩)
   ·refine S2 ?_
    exact Jr h_t28 ⟨J,sz⟩ (fun _ h=>h.upto ⟨by rw [qN,c1] <;>rfl,sz⟩)
 ·refine V15 ?_;refine Wu [] ([.cel b1 273 (spC (J3 s x)), .cel b2 273 (spC x), .cel b3 273 [.int .i64 0, .int .i64 0, .int .i64 0, .int .i64 0, .bool false, .bool false]]) (kK [2,4]) (fun L h_t59=> ?_) ?_
  ·refine qn [(59, .bool (wn (qN s x) x))] (kK [2,3,4]) (fun L h_7=> ?_) ?_
   ·refine S4 ?_;refine cV 51 (fun g3=> ?_) (fun g3=> ?_)
    ·refine S9 ?_
     exact Jr h_7 ⟨vb (by symm;simp [wn];omega),sz⟩ (u9 J)
    ·refine S6 ?_;refine cV 54 (fun g4=> ?_) (fun g4=> ?_)
     ·refine S10 ?_
      exact Jr h_7 ⟨vb (by simp [wn,g4]),sz⟩ (u9 J)
     ·refine S7 ?_
      exact Jr h_7 ⟨vb (by symm;simp [wn];omega),sz⟩ (u9 J)
   ·refine v9 ?_;refine cZ (fun c2=> ?_) (fun c2=> ?_)
    ·refine S6 ?_;refine Mx (k:=0) J J J J (J) (by rfl) QI.szx J ?_;refine N7 ?_;refine My (k:=0) J J J J (J) (by rfl) QI.szx J ?_;refine N6 ?_;refine MB (k:=0) J J J J (J) (by rfl) yk.szx J ?_;refine N1 ?_
     exact Jr h_t59 ⟨J,sz⟩ (fun _ h=>h.upto ⟨by rw [J3,QV,if_pos c2] <;>rfl,sz⟩)
    ·refine S2 ?_
     exact Jr h_t59 ⟨J,sz⟩ (fun _ h=>h.upto ⟨by rw [J3,QV,c2] <;>rfl,sz⟩)
  ·refine V7 ?_;refine jL J (qh (k:=2) J qk J J) ?_
   intro w' hs
   exact⟨rfl,hs.fin⟩
theorem OH (ax ay bx b_y px_ py_:Int) (w:World) (ha:wF ax ay=true) (hb:wF bx b_y=true) (hp:wF px_ py_=true) :
  Calls Tryz.prog 249 #[WH ax ay,WH bx b_y,WH px_ py_] w fun e w'=>e= .returned (.tuple #[C9 (if(Kk (2*ax) (2* (bx- ax)) (2*px_- 1) &&Kk (2*ay) (2* (b_y- ay)) (2*py_- 1)) =true then J3 (J3 Wi (QD (2*ax) (2* (bx- ax)) (2*px_- 1))) (QD (2*ay) (2* (b_y- ay)) (2*py_- 1)) else Wi),
   .bool (xt (2*ax) (2* (bx- ax)) (2*px_- 1) (2*ay) (2* (b_y- ay)) (2*py_- 1))])∧Over w w':=by
 simp [wF,Z7] at ha hb hp
 have hx:=zI (2*ax) (2* (bx- ax)) (2*px_- 1) Om Om Om Om Om Om
 have hy:=zI (2*ay) (2* (b_y- ay)) (2*py_- 1) Om Om Om Om Om Om
 have h1:=wy (wg MU hx) hx
 obtain ⟨sx,ex⟩ :∃s,QD (2*ax) (2* (bx- ax)) (2*px_- 1) =s:=⟨_,rfl⟩
 obtain ⟨sy,ey⟩ :∃s,QD (2*ay) (2* (b_y- ay)) (2*py_- 1) =s:=⟨_,rfl⟩
 obtain ⟨ix,jx⟩ :∃s,Kk (2*ax) (2* (bx- ax)) (2*px_- 1) =s:=⟨_,rfl⟩
 obtain ⟨iy,jy⟩ :∃s,Kk (2*ay) (2* (b_y- ay)) (2*py_- 1) =s:=⟨_,rfl⟩
 unfold xt
 rw [ex] at hx h1
 rw [ey] at hy
 rw [ex,ey,jx,jy]
 change bdP (J3 Wi sx) at h1
 obtain ⟨s2,e2⟩ :∃s,J3 (J3 Wi sx) sy=s:=⟨_,rfl⟩
 rw [e2]
 have h2:bdP (J3 (J3 Wi sx) sy) :=wy (wg h1 hy) hy
 rw [e2] at h2
 obtain ⟨m1,m2⟩ :=Dx h2.low h2.high
 have hA:∀w,Calls Tryz.prog 272 #[.int .i64 (2*ax), .int .i64 (2* (bx- ax)), .int .i64 (2*px_- 1), .int .i64 (2*px_+1)] w fun e w'=>e= .returned (.tuple #[C9 sx, .bool ix])∧Over w w':=fun w=>ex▸jx▸GM _ _ _ _ w Om Om Om Om Om Om Om
 have hB:∀w,Calls Tryz.prog 272 #[.int .i64 (2*ay), .int .i64 (2* (b_y- ay)), .int .i64 (2*py_- 1), .int .i64 (2*py_+1)] w fun e w'=>e= .returned (.tuple #[C9 sy, .bool iy])∧Over w w':=fun w=>ey▸jy▸GM _ _ _ _ w Om Om Om Om Om Om Om
 have hC:∀w,Calls Tryz.prog 273 #[C9 (J3 Wi sx),C9 sy] w fun e w'=>e= .returned (C9 s2)∧Over w w':=fun w=>e2▸GN _ _ w h1 hy
 refine jT (m:=95) (Tryz.func249) J J (lb J) ?_;refine S3 ?_;refine aX (fun b1=> ?_);refine N1 ?_;refine aX (fun b2=> ?_);refine N1 ?_;refine aX (fun b3=> ?_);refine N1 ?_;refine aL (fun b4=> ?_);refine N4 ?_;refine a9 (J0 J J (vw J J J J J J)) ?_;refine S1 ?_;refine aL (fun b5=> ?_);refine N22 ?_;refine a9 (jJ Yj J J (fun w h=>hA w)) ?_;refine S4 ?_;refine aL (fun b6=> ?_);refine N23 ?_;refine a9 (jJ Yj J J (fun w h=>hB w)) ?_;refine S4 ?_;refine aL (fun b7=> ?_);refine N5 ?_;refine qn [(62, .bool (!(ix&&iy)))] (kK [6,7,8,9,11]) (fun L h_4=> ?_) ?_
 ·refine S4 ?_;refine cV 59 (fun g1=> ?_) (fun g1=> ?_)
  ·refine S4 ?_
   exact Jr h_4 ⟨vb (by simp [g1]),sz⟩ (u9 J)
  ·refine S6 ?_
   exact Jr h_4 ⟨vb (by simp [g1]),sz⟩ (u9 J)
 ·refine v9 ?_;refine cZ (fun c1=> ?_) (fun c1=> ?_)
  ·refine S9 ?_;refine qo J (qh (k:=3) J qk J J) (.tmp J) ?_
   intro w' hs
   have q: ((ix&&iy) =true) =False:= (by simp at c1;simp;exact c1)
   exact⟨by simp only [q,if_false];simp at c1;cases ix<;>simp_all [Wi],hs.fin⟩
  ·have q: (ix&&iy) =true:= (by simpa using c1)
   refine S4 ?_;refine JS 5 ?_;refine dK 0 ?_;refine dK 1 ?_;refine dZ 2 J (jJ Yk J J (fun w h=>GN Wi sx w MU hx)) ?_;refine dK 3 ?_;refine dZ 4 J (jJ Yk J J (fun w h=>hC w)) ?_;refine KB J Kr J ?_;refine S1 ?_;refine UD Kr ?_;refine S18 ?_;refine QH 17 [3] ?_;refine dK 0 ?_;refine dK 1 ?_;refine dK 2 ?_;refine dK 3 ?_;refine cV 83 (fun g2=> ?_) (fun g2=> ?_)
   ·refine fK 4 ?_;refine fK 5 ?_;refine fK 6 ?_;refine Kx (i:=7) J Kr Kr Kr [] Kr (fun _ _ _ h=>h) J J J J J Dc (uw [3] J) ?_;refine Kx (i:=8) J Kr Kr Kr [] Kr (fun _ _ _ h=>h) J J J J J Dc (uw [3] J) ?_;refine fK 9 ?_;refine fK 10 ?_;refine Kx (i:=11) J Kr Kr Kr [] Kr (fun _ _ _ h=>h) J J J J J Dc (uw [3] J) ?_;refine Kx (i:=12) J Kr Kr Kr [] Kr (fun _ _ _ h=>h) J J J J J Dc (uw [3] J) ?_;refine fK 13 ?_;refine dK 14 ?_;refine J8 (i:=15) J Dc Kr J ?_;refine S1 ?_;refine JU (uw [3] J) ?_;refine dK 16 ?_;refine JI Kr ?_;refine S2 ?_;refine qo J (qh (k:=3) J qk J J) (.tmp J) ?_
    intro w' hs
    exact⟨by rw [if_pos q,q,jg2,show K5 s2=true from(by simp [K5];omega)],hs.fin⟩
   ·refine eK 4 ?_;refine eK 5 ?_;refine eK 6 ?_;refine cV 86 (fun g3=> ?_) (fun g3=> ?_)
    ·refine eK 7 ?_;refine eK 8 ?_;refine eK 9 ?_;refine eK 10 ?_;refine cV 90 (fun g4=> ?_) (fun g4=> ?_)
     ·refine eK 11 ?_;refine eK 12 ?_;refine eK 13 ?_;refine dK 14 ?_;refine J8 (i:=15) J Dc Kr J ?_;refine S1 ?_;refine JU (uw [3] J) ?_;refine dK 16 ?_;refine JI Kr ?_;refine S2 ?_;refine qo J (qh (k:=3) J qk J J) (.tmp J) ?_
      intro w' hs
      exact⟨by rw [if_pos q,q,jg2,show K5 s2=s2.hc from(by simp [K5, *])],hs.fin⟩
     ·refine fK 11 ?_;refine fK 12 ?_;refine eK 13 ?_;refine dK 14 ?_;refine J8 (i:=15) J Dc Kr J ?_;refine S1 ?_;refine JU (uw [3] J) ?_;refine dK 16 ?_;refine JI Kr ?_;refine S2 ?_;refine qo J (qh (k:=3) J qk J J) (.tmp J) ?_
      intro w' hs
      exact⟨by rw [if_pos q,q,jg2,show K5 s2=false from(by simp [K5, *])],hs.fin⟩
    ·refine fK 7 ?_;refine fK 8 ?_;refine eK 9 ?_;refine eK 10 ?_;refine fK 11 ?_;refine fK 12 ?_;refine eK 13 ?_;refine dK 14 ?_;refine J8 (i:=15) J Dc Kr J ?_;refine S1 ?_;refine JU (uw [3] J) ?_;refine dK 16 ?_;refine JI Kr ?_;refine S2 ?_;refine qo J (qh (k:=3) J qk J J) (.tmp J) ?_
     intro w' hs
     exact⟨by rw [if_pos q,q,jg2,show K5 s2=false from(by simp [K5];omega)],hs.fin⟩
end Go.Proofs.YtbahojdbmmjkcaaGreat
