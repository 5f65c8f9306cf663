import Derived.Test.YtkagkgjjfdkoaaaGreatMMem
import Derived.Test.YtkagkgjjfdkoaaaGreatMDat
import Derived.Test.YtkagkgjjfdkoaaaGreatMCorner
set_option linter.unusedVariables false
set_option linter.unusedSimpArgs false
namespace Go.Proofs.YtkagkgjjfdkoaaaGreat
open Go Go.RowKit
set_option maxRecDepth 100000
set_option maxHeartbeats 4000000
structure Sp where
 ln:Int
 ld:Int
 lc:Bool
 hn:Int
 hd:Int
 hc:Bool
def Wq:Sp:=⟨0,1,true,1,1,true⟩
def va (s:Sp) :Bool:=decide (s.ln*s.hd- s.hn*s.ld<0) || (decide (s.ln*s.hd- s.hn*s.ld=0) &&s.lc&&s.hc)
def um (s x:Sp) :Bool:=decide (s.ln*x.ld- x.ln*s.ld<0) || (decide (s.ln*x.ld- x.ln*s.ld=0) && !x.lc)
def wE (s x:Sp) :Bool:=decide (s.hn*x.hd- x.hn*s.hd>0) || (decide (s.hn*x.hd- x.hn*s.hd=0) && !x.hc)
def qE (s x:Sp) :Sp:=if um s x=true then {s with ln:=x.ln,ld:=x.ld,lc:=x.lc} else s
def QS (s x:Sp) :Sp:=if wE s x=true then {s with hn:=x.hn,hd:=x.hd,hc:=x.hc} else s
def JT (s x:Sp) :Sp:=QS (qE s x) x
theorem vT {a b c d e f:Int} (hd:0<d) (hb:0<b) (hf:0<f) (h1:a*d≤c*b) (h2:c*f≤e*d) :a*f≤e*b:=by
 have p1:=jeH h1 (jf3 hf)
 have p2:=jeH h2 (jf3 hb)
 have e1:a*d*f=a*f*d:=by rw [jfF,jfn d f,←jfF]
 have e2:c*b*f=c*f*b:=by rw [jfF,jfn b f,←jfF]
 have e3:e*d*b=e*b*d:=by rw [jfF,jfn d b,←jfF]
 rw [e1,e2] at p1
 rw [e3] at p2
 exact jfk (jf8 p1 p2) hd
theorem Vx {a b c d e f:Int} (hd:0<d) (hb:0<b) (hf:0<f) (h1:a*d<c*b) (h2:c*f≤e*d) :a*f<e*b:=by
 have p1:=jfh h1 hf
 have p2:=jeH h2 (jf3 hb)
 have e1:a*d*f=a*f*d:=by rw [jfF,jfn d f,←jfF]
 have e2:c*b*f=c*f*b:=by rw [jfF,jfn b f,←jfF]
 have e3:e*d*b=e*b*d:=by rw [jfF,jfn d b,←jfF]
 rw [e1,e2] at p1
 rw [e3] at p2
 exact jfv (Int.lt_of_lt_of_le p1 p2) (jf3 hd)
theorem K5 {a b c d e f:Int} (hd:0<d) (hb:0<b) (hf:0<f) (h1:a*d≤c*b) (h2:c*f<e*d) :a*f<e*b:=by
 have p1:=jeH h1 (jf3 hf)
 have p2:=jfh h2 hb
 have e1:a*d*f=a*f*d:=by rw [jfF,jfn d f,←jfF]
 have e2:c*b*f=c*f*b:=by rw [jfF,jfn b f,←jfF]
 have e3:e*d*b=e*b*d:=by rw [jfF,jfn d b,←jfF]
 rw [e1,e2] at p1
 rw [e3] at p2
 exact jfv (Int.lt_of_le_of_lt p1 p2) (jf3 hd)
theorem EQ {s x:Sp} (h1:0<s.ld) (h2:0<s.hd) (h3:0<x.ld) (h:va (qE s x) =true) :va s=true:=by
 unfold qE at h
 split at h
 case isFalse=>exact h
 case isTrue hu=>
  simp only [va,um,jfs,jeF,decide_eq_true_eq,jfq] at*
  obtain ⟨sln,sld,slc,shn,shd,shc⟩ :=s
  obtain ⟨xln,xld,xlc,xhn,xhd,xhc⟩ :=x
  simp only at*
  rcases hu with hu |⟨hu,hx⟩
  ·left
   have:sln*shd<shn*sld:=by
    rcases h with h | h
    ·exact K5 (d:=xld) (c:=xln) h3 h1 h2 (by omega) (by omega)
    ·exact Vx (d:=xld) (c:=xln) h3 h1 h2 (by omega) (by omega)
   omega
  ·rcases h with h |⟨⟨h,h'⟩,_⟩
   ·left
    have:sln*shd<shn*sld:=K5 (d:=xld) (c:=xln) h3 h1 h2 (by omega) (by omega)
    omega
   ·rw [hx] at h';cases h'
theorem Pq {s x:Sp} (h1:0<s.ld) (h2:0<s.hd) (h3:0<x.hd) (h:va (QS s x) =true) :va s=true:=by
 unfold QS at h
 split at h
 case isFalse=>exact h
 case isTrue hu=>
  simp only [va,wE,jfs,jeF,decide_eq_true_eq,jfq] at*
  obtain ⟨sln,sld,slc,shn,shd,shc⟩ :=s
  obtain ⟨xln,xld,xlc,xhn,xhd,xhc⟩ :=x
  simp only at*
  rcases hu with hu |⟨hu,hx⟩
  ·left
   have:sln*shd<shn*sld:=by
    rcases h with h | h
    ·exact Vx (d:=xhd) (c:=xhn) h3 h1 h2 (by omega) (by omega)
    ·exact K5 (d:=xhd) (c:=xhn) h3 h1 h2 (by omega) (by omega)
   omega
  ·rcases h with h |⟨⟨h,_⟩,h'⟩
   ·left
    have:sln*shd<shn*sld:=Vx (d:=xhd) (c:=xhn) h3 h1 h2 (by omega) (by omega)
    omega
   ·rw [hx] at h';cases h'
def QE (f d lo:Int) :Sp:=if 0<d then⟨lo- f,d,true,lo+2- f,d,false⟩ else if d<0 then⟨f- lo- 2,-d,false,f- lo,-d,true⟩ else Wq
def Kj (f d lo:Int) :Bool:= !decide (d=0) || (decide (lo≤f) &&decide (f<lo+2))
def VJ (s:Sp) (f d lo:Int) :Sp:=if d=0 then s else JT s (QE f d lo)
def uf (s:Sp) (f d lo:Int) :Bool:=if d=0 then decide (lo≤f) &&decide (f<lo+2) else va (JT s (QE f d lo))
theorem kG (f d lo:Int) :0< (QE f d lo).ld∧0< (QE f d lo).hd:=by
 unfold QE
 split
 ·exact⟨by assumption,by assumption⟩
 ·split
  ·exact⟨by simp;omega,by simp;omega⟩
  ·exact⟨by decide,by decide⟩
theorem YJ {s x:Sp} (h:0<s.ld∧0<s.hd) (hx:0<x.ld∧0<x.hd) :0< (qE s x).ld∧0< (qE s x).hd:=by
 unfold qE;split
 ·exact⟨hx.1,h.2⟩
 ·exact h
theorem Kw {s x:Sp} (h:0<s.ld∧0<s.hd) (hx:0<x.ld∧0<x.hd) :0< (JT s x).ld∧0< (JT s x).hd:=by
 have h':=YJ h hx
 unfold JT QS;split
 ·exact⟨h'.1,hx.2⟩
 ·exact h'
theorem uu:0<Wq.ld∧0<Wq.hd:=⟨by decide,by decide⟩
theorem Pr {s x:Sp} (h:0<s.ld∧0<s.hd) (hx:0<x.ld∧0<x.hd) (hn:va (JT s x) =true) :va s=true:=by
 have h':=YJ h hx
 exact EQ h.1 h.2 hx.1 (Pq h'.1 h'.2 hx.2 hn)
def BQ (s:Sp) :Prop:=0≤s.ln∧s.hn≤s.hd
theorem BR {x:Sp} :BQ (JT Wq x) :=by
 unfold BQ JT QS qE wE um Wq
 constructor
 ·split<;>split<;>simp_all<;>omega
 ·split<;>split<;>simp_all<;>omega
theorem IQ {s:Sp} (h:BQ s) :JT s Wq=s:=by
 obtain ⟨h1,h2⟩ :=h
 have e1:um s Wq=false:=by simp [um,Wq];omega
 have e2:wE s Wq=false:=by simp [wE,Wq];omega
 have e3:qE s Wq=s:=by rw [qE,e1];rfl
 rw [JT,e3,QS,e2];rfl
theorem MC:BQ Wq:=⟨by decide,by decide⟩
def xm (f d lo f' d' lo':Int) :Bool:=Kj f d lo&&Kj f' d' lo'&&va (JT (JT Wq (QE f d lo)) (QE f' d' lo'))
theorem VE (f lo:Int) :QE f 0 lo=Wq:=by simp [QE]
theorem Lu {s:Sp} (h:BQ s) (f d lo:Int) :VJ s f d lo=JT s (QE f d lo) :=by
 unfold VJ
 split
 ·rename_i h0;subst h0;rw [VE,IQ h]
 ·rfl
theorem FR {s:Sp} (h:BQ s) (hn:va s=true) (f d lo:Int) :uf s f d lo= (Kj f d lo&&va (JT s (QE f d lo))) :=by
 unfold uf Kj
 split
 ·rename_i h0;subst h0;rw [VE,IQ h,hn];simp
 ·rename_i h0;simp [h0]
theorem FT (f d lo f' d' lo':Int) :xm f d lo f' d' lo'= (uf Wq f d lo&&uf (VJ Wq f d lo) f' d' lo') :=by
 have hn0:va Wq=true:=by decide
 rw [Lu MC,FR MC hn0,xm]
 cases h1:Kj f d lo
 ·simp
 ·cases h2:va (JT Wq (QE f d lo))
  ·have:va (JT (JT Wq (QE f d lo)) (QE f' d' lo')) =false:=by
    cases h3:va (JT (JT Wq (QE f d lo)) (QE f' d' lo'))
    ·rfl
    ·have:=Pr (Kw uu (kG _ _ _)) (kG _ _ _) h3
     rw [h2] at this;cases this
   simp [this]
  ·rw [FR BR h2]
   simp
abbrev bdV (n d:Int) (c:Bool) :Value:= .agg #[.int .i64 n, .int .i64 d, .bool c]
def bd1 (n d:Int) :Prop:= (-2097152≤n∧n≤2097152)∧-2097152≤d∧d≤2097152
theorem Vv (n d n' d':Int) (c c':Bool) (w:World) (h:bd1 n d) (h':bd1 n' d') :
  Calls Tryz.prog 122 #[bdV n d c,bdV n' d' c'] w fun e w'=>e= .returned (.int .i64 (Wh (n*d'- n'*d)))∧Over w w':=by
 obtain ⟨⟨a1,a2⟩,a3,a4⟩ :=h
 obtain ⟨⟨b1,b2⟩,b3,b4⟩ :=h'
 obtain ⟨m1,m1'⟩ :=kg a1 a2 b3 b4
 obtain ⟨m2,m2'⟩ :=kg b1 b2 a3 a4
 refine jU (m:=17) (Tryz.func122) J J (lb J) ?_;refine S3 ?_;refine aX (fun b1=> ?_);refine N1 ?_;refine aX (fun b2=> ?_);refine N15 ?_;refine a9 (jH QI J J (fun w h=> (Ka _ w).mono fun e w' ⟨he,hw⟩ =>⟨he,hw▸Over.refl _⟩)) ?_;refine S3 ?_;refine jL J (.tmp J) ?_
 intro w' hs
 exact⟨rfl,hs.fin⟩
def PX (s:Sp) :List Value:= [.int .i64 s.ln, .int .i64 s.ld, .bool s.lc, .int .i64 s.hn, .int .i64 s.hd, .bool s.hc]
structure bdP (s:Sp) :Prop where
 low:bd1 s.ln s.ld
 high:bd1 s.hn s.hd
theorem zC (f d lo:Int) (f1: -524288≤f) (f2:f≤524288) (d1: -1048576≤d) (d2:d≤1048576) (l1: -524289≤lo) (l2:lo≤524289) :bdP (QE f d lo) :=by
 unfold QE
 split
 ·exact⟨⟨⟨by simp;omega,by simp;omega⟩,by simp;omega,by simp;omega⟩,⟨by simp;omega,by simp;omega⟩,by simp;omega,by simp;omega⟩
 ·split
  ·exact⟨⟨⟨by simp;omega,by simp;omega⟩,by simp;omega,by simp;omega⟩,⟨by simp;omega,by simp;omega⟩,by simp;omega,by simp;omega⟩
  ·exact⟨⟨⟨by decide,by decide⟩,by decide,by decide⟩,⟨by decide,by decide⟩,by decide,by decide⟩
theorem wt {s x:Sp} (hs:bdP s) (hx:bdP x) :bdP (qE s x) :=by
 unfold qE;split
 ·exact⟨hx.low,hs.high⟩
 ·exact hs
theorem wM {s x:Sp} (hs:bdP s) (hx:bdP x) :bdP (QS s x) :=by
 unfold QS;split
 ·exact⟨hs.low,hx.high⟩
 ·exact hs
theorem Nh {n:Int} : (Wh n<0)↔n<0:=by unfold Wh;split<;> (try split) <;>omega
theorem vh (n:Int) : (n<0∧Wh n= -1)∨(n=0∧Wh n=0)∨(0<n∧Wh n=1) :=by unfold Wh;split<;> (try split) <;>omega
theorem Fq9 (b:Nat) (s:Sp) (f d lo:Int) (w:World) (hs:bdP s) (f1: -524288≤f) (f2:f≤524288) (d1: -1048576≤d) (d2:d≤1048576) (l1: -524289≤lo) (l2:lo≤524289)
  (hh:w.heap[b]? =some (.cells (PX s).toArray 151 (0,0))) :
  Calls Tryz.prog 161 #[.pointer (some ⟨b,0,none⟩), .int .i64 f, .int .i64 d, .int .i64 lo] w fun e w'=>e= .returned (.bool (uf s f d lo))∧Wr b w w'∧w'.heap[b]? =some (.cells (PX (VJ s f d lo)).toArray 151 (0,0)) :=by
 have hx:=zC f d lo f1 f2 d1 d2 l1 l2
 obtain ⟨x,ex⟩ :∃x,QE f d lo=x:=⟨_,rfl⟩
 rw [ex] at hx
 have hs1:=wt hs hx
 have hs2:=wM hs1 hx
 obtain ⟨x1,x2⟩ :=hx
 obtain ⟨y1,y2⟩ :=hs
 obtain ⟨z1,z2⟩ :=hs1
 obtain ⟨u1,u2⟩ :=hs2
 refine Qv (m:=122) (Tryz.func161) J J (lb J) (hh) ?_;refine S10 ?_;refine cZ (fun c1=> ?_) (fun c1=> ?_)
 ·refine S6 ?_;refine cV 19 (fun g1=> ?_) (fun g1=> ?_)
  ·refine S13 ?_;refine jL J (.tmp J) ?_
   intro w' hs
   exact⟨by subst c1;simp [uf,g1],hs.over.wr,by subst c1;simpa [VJ] using hs.cel (k:=0) rfl⟩
  ·refine S9 ?_;refine jL J (.tmp J) ?_
   intro w' hs
   exact⟨by subst c1;simp [uf];omega,hs.over.wr,by subst c1;simpa [VJ] using hs.cel (k:=0) rfl⟩
 ·refine S8 ?_;refine a9 (JV J J (QQ J J J)) ?_;refine S5 ?_;refine a9 (JV J J (QQ J J J)) ?_;refine S1 ?_;refine aL (fun b1=> ?_);refine N1 ?_;refine aL (fun b2=> ?_);refine N5 ?_;refine wW [] ([.cel b 151 (PX s), .cel b1 149 [.int .i64 x.ln, .int .i64 x.ld, .bool x.lc], .cel b2 149 [.int .i64 x.hn, .int .i64 x.hd, .bool x.hc]]) (kK [0,8,9,10]) (fun L h_t37=> ?_) ?_
  ·refine S5 ?_;refine cZ (fun c2=> ?_) (fun c2=> ?_)
   ·refine S6 ?_;refine a9 (YT J J (by omega) (by omega)) ?_;refine a9 (JV J J (QQ J J J)) ?_;refine S4 ?_;refine a9 (YT J J (by omega) (by omega)) ?_;refine a9 (JV J J (QQ J J J)) ?_;refine S5 ?_
    exact Jb h_t37 ⟨J,sz⟩ (fun _ h=>h.upto ⟨J,by rw [←ex,QE,if_neg (by omega),if_pos c2] <;>rfl,by rw [←ex,QE,if_neg (by omega),if_pos c2] <;>rfl,trivial⟩)
   ·refine S2 ?_
    exact Jb h_t37 ⟨J,sz⟩ (fun _ h=>h.upto ⟨J,by rw [←ex,QE,if_pos (by omega)] <;>rfl,by rw [←ex,QE,if_pos (by omega)] <;>rfl,trivial⟩)
  ·refine v9 ?_;refine wW [] ([.cel b 151 (PX (qE s x)), .cel b1 149 [.int .i64 x.ln, .int .i64 x.ld, .bool x.lc], .cel b2 149 [.int .i64 x.hn, .int .i64 x.hd, .bool x.hc]]) (kK [0,8,10]) (fun L h_t67=> ?_) ?_
   ·refine S2 ?_;refine Jw 7 ?_;refine dK 0 ?_;refine dK 1 ?_;refine dK 2 ?_;refine dK 3 ?_;refine dK 4 ?_;refine dZ 5 J (jH KN J J (fun w h=>Vv _ _ _ _ _ _ w (by assumption) (by assumption))) ?_;refine dK 6 ?_;refine Jj (by kernel_rfl) ?_;refine S1 ?_;refine qd [(67, .bool (um s x))] (kK [0,8,9,10]) (fun L h_7=> ?_) ?_
    ·refine S4 ?_;refine cV 59 (fun g2=> ?_) (fun g2=> ?_)
     ·refine S9 ?_
      exact Jb h_7 ⟨vb (by have k:=vh (x.ln*s.ld- s.ln*x.ld);symm;simp [um];omega),sz⟩ (u9 rfl)
     ·refine S6 ?_;refine cV 62 (fun g3=> ?_) (fun g3=> ?_)
      ·refine S10 ?_
       exact Jb h_7 ⟨vb (by have k:=vh (x.ln*s.ld- s.ln*x.ld);have e:s.ln*x.ld- x.ln*s.ld=0:= (by omega);simp [um,e]),sz⟩ (u9 rfl)
      ·refine S7 ?_
       exact Jb h_7 ⟨vb (by have k:=vh (x.ln*s.ld- s.ln*x.ld);symm;simp [um];omega),sz⟩ (u9 rfl)
    ·refine v9 ?_;refine cZ (fun c3=> ?_) (fun c3=> ?_)
     ·refine S6 ?_;refine Me (k:=0) J J J J (J) (by rfl) kJ.szx J ?_;refine N1 ?_
      exact Jb h_t67 ⟨J,sz⟩ (fun _ h=>h.upto ⟨by rw [qE,if_pos c3] <;>rfl,sz⟩)
     ·refine S2 ?_
      exact Jb h_t67 ⟨J,sz⟩ (fun _ h=>h.upto ⟨by rw [qE,c3] <;>rfl,sz⟩)
   ·refine v9 ?_;refine wW [] ([.cel b 151 (PX (JT s x)), .cel b1 149 [.int .i64 x.ln, .int .i64 x.ld, .bool x.lc], .cel b2 149 [.int .i64 x.hn, .int .i64 x.hd, .bool x.hc]]) (kK [0,8]) (fun L h_t88=> ?_) ?_
    ·refine S2 ?_;refine Jw 7 ?_;refine dK 0 ?_;refine dK 1 ?_;refine dK 2 ?_;refine dK 3 ?_;refine dK 4 ?_;refine dZ 5 J (jH KN J J (fun w h=>Vv _ _ _ _ _ _ w (by assumption) (by assumption))) ?_;refine dK 6 ?_;refine Jj (by kernel_rfl) ?_;refine S1 ?_;refine qd [(88, .bool (wE (qE s x) x))] (kK [0,8,10]) (fun L h_10=> ?_) ?_
     ·refine S4 ?_;refine cV 80 (fun g4=> ?_) (fun g4=> ?_)
      ·refine S9 ?_
       exact Jb h_10 ⟨vb (by have k:=vh (x.hn* (qE s x).hd- (qE s x).hn*x.hd);symm;simp [wE];omega),sz⟩ (u9 rfl)
      ·refine S6 ?_;refine cV 83 (fun g5=> ?_) (fun g5=> ?_)
       ·refine S10 ?_
        exact Jb h_10 ⟨vb (by have k:=vh (x.hn* (qE s x).hd- (qE s x).hn*x.hd);have e: (qE s x).hn*x.hd- x.hn* (qE s x).hd=0:= (by omega);simp [wE,e]),sz⟩ (u9 rfl)
       ·refine S7 ?_
        exact Jb h_10 ⟨vb (by have k:=vh (x.hn* (qE s x).hd- (qE s x).hn*x.hd);symm;simp [wE];omega),sz⟩ (u9 rfl)
     ·refine v9 ?_;refine cZ (fun c4=> ?_) (fun c4=> ?_)
      ·refine S6 ?_;refine Mi (k:=0) J J J J (J) (by rfl) kJ.szx J ?_;refine N1 ?_
       exact Jb h_t88 ⟨J,sz⟩ (fun _ h=>h.upto ⟨by rw [JT,QS,if_pos c4] <;>rfl,sz⟩)
      ·refine S2 ?_
       exact Jb h_t88 ⟨J,sz⟩ (fun _ h=>h.upto ⟨by rw [JT,QS,c4] <;>rfl,sz⟩)
    ·refine V2 ?_;refine Jw 10 ?_;refine dK 0 ?_;refine dK 1 ?_;refine dK 2 ?_;refine dK 3 ?_;refine dK 4 ?_;refine dK 5 ?_;refine dK 6 ?_;refine dK 7 ?_;refine dZ 8 J (jH KN J J (fun w h=>Vv _ _ _ _ _ _ w (by assumption) (by assumption))) ?_;refine dK 9 ?_;refine Jj (by kernel_rfl) ?_;refine S6 ?_;refine cV 104 (fun g6=> ?_) (fun g6=> ?_)
     ·refine S20 ?_;refine jL J (.tmp J) ?_
      intro w' hs
      have k:=vh ((JT s x).ln* (JT s x).hd- (JT s x).hn* (JT s x).ld)
      exact⟨QJ (by rw [uf,if_neg c1,ex];symm;simp [va];omega),hs.over.wr,by rw [VJ,if_neg c1,ex];exact hs.cel (k:=0) rfl⟩
     ·refine S6 ?_;refine cV 107 (fun g7=> ?_) (fun g7=> ?_)
      ·refine S14 ?_;refine cV 114 (fun g8=> ?_) (fun g8=> ?_)
       ·refine S16 ?_;refine jL J (.tmp J) ?_
        intro w' hs
        have k:=vh ((JT s x).ln* (JT s x).hd- (JT s x).hn* (JT s x).ld)
        have e: (JT s x).ln* (JT s x).hd- (JT s x).hn* (JT s x).ld=0:= (by omega)
        exact⟨QJ (by rw [uf,if_neg c1,ex];simp [va,e, *]),hs.over.wr,by rw [VJ,if_neg c1,ex];exact hs.cel (k:=0) rfl⟩
       ·refine S11 ?_;refine jL J (.tmp J) ?_
        intro w' hs
        have k:=vh ((JT s x).ln* (JT s x).hd- (JT s x).hn* (JT s x).ld)
        have e: (JT s x).ln* (JT s x).hd- (JT s x).hn* (JT s x).ld=0:= (by omega)
        exact⟨QJ (by rw [uf,if_neg c1,ex];simp [va,e, *]),hs.over.wr,by rw [VJ,if_neg c1,ex];exact hs.cel (k:=0) rfl⟩
      ·refine S20 ?_;refine jL J (.tmp J) ?_
       intro w' hs
       have k:=vh ((JT s x).ln* (JT s x).hd- (JT s x).hn* (JT s x).ld)
       exact⟨QJ (by rw [uf,if_neg c1,ex];symm;simp [va];omega),hs.over.wr,by rw [VJ,if_neg c1,ex];exact hs.cel (k:=0) rfl⟩
abbrev jcP (s:Sp) :Value:= .agg #[.int .i64 s.ln, .int .i64 s.ld, .bool s.lc, .int .i64 s.hn, .int .i64 s.hd, .bool s.hc]
theorem MB:bdP Wq:=⟨⟨by decide,by decide⟩,by decide,by decide⟩
theorem CI {s:Sp} {f d lo:Int} (hs:bdP s) (hx:bdP (QE f d lo)) :bdP (VJ s f d lo) :=by
 unfold VJ;split
 ·exact hs
 ·exact wM (wt hs hx) hx
theorem OG (ax ay bx b_y px_ py_:Int) (w:World) (ha:wU ax ay=true) (hb:wU bx b_y=true) (hp:wU px_ py_=true) :
  Calls Tryz.prog 119 #[W2 ax ay,W2 bx b_y,W2 px_ py_] w fun e w'=>e= .returned (.tuple #[jcP (if uf Wq (2*ax) (2* (bx- ax)) (2*px_- 1) =true then VJ (VJ Wq (2*ax) (2* (bx- ax)) (2*px_- 1)) (2*ay) (2* (b_y- ay)) (2*py_- 1) else VJ Wq (2*ax) (2* (bx- ax)) (2*px_- 1)),
   .bool (uf Wq (2*ax) (2* (bx- ax)) (2*px_- 1) &&uf (VJ Wq (2*ax) (2* (bx- ax)) (2*px_- 1)) (2*ay) (2* (b_y- ay)) (2*py_- 1))])∧Over w w':=by
 simp [wU,XA] at ha hb hp
 have hs1:=CI (f:=2*ax) (d:=2* (bx- ax)) (lo:=2*px_- 1) MB (zC _ _ _ (by omega) (by omega) (by omega) (by omega) (by omega) (by omega))
 refine jU (m:=45) (Tryz.func119) J J (lb J) ?_;refine S3 ?_;refine aX (fun b1=> ?_);refine N1 ?_;refine aX (fun b2=> ?_);refine N1 ?_;refine aX (fun b3=> ?_);refine N1 ?_;refine aL (fun b4=> ?_);refine N4 ?_;refine a9 (JV J J (QQ J J J)) ?_;refine a9 (JV J J (QQ J J J)) ?_;refine a9 (JV J J (yl J J)) ?_;refine S1 ?_;refine aL (fun b5=> ?_);refine N4 ?_;refine jdO (Rs':= [.cel b1 54 [.int .i64 ax, .int .i64 ay], .cel b2 54 [.int .i64 bx, .int .i64 b_y], .cel b3 54 [.int .i64 px_, .int .i64 py_], .cel b4 151 [.int .i64 0, .int .i64 0, .bool false, .int .i64 0, .int .i64 0, .bool false], .cel b5 151 (PX Wq)]) (fun _ h=>h) ?_;refine S15 ?_;refine Qq (k:=4) VT J J J (by decide) J (fun w h=>Fq9 b5 Wq (2*ax) (2* (bx- ax)) (2*px_- 1) w MB (by omega) (by omega) (by omega) (by omega) (by omega) (by omega) (h.cel (k:=4) J)) ?_;refine N1 ?_;refine cV 27 (fun g1=> ?_) (fun g1=> ?_)
 ·refine S27 ?_;refine Qq (k:=4) VT J J J (by decide) J (fun w h=>Fq9 b5 (VJ Wq (2*ax) (2* (bx- ax)) (2*px_- 1)) (2*ay) (2* (b_y- ay)) (2*py_- 1) w hs1 (by omega) (by omega) (by omega) (by omega) (by omega) (by omega) (h.cel (k:=4) J)) ?_;refine N12 ?_;refine J6 J (J3 (k:=3) J vE J J) (.tmp J) ?_
  intro w' hs
  exact⟨by rw [if_pos g1,g1,jfe];rfl,hs.fin⟩
 ·refine S26 ?_;refine J6 J (J3 (k:=3) J vE J J) (.tmp J) ?_
  intro w' hs
  exact⟨by rw [if_neg (by rw [g1];simp),g1,jfp];rfl,hs.fin⟩
abbrev PY (s:Sp) :Value:= .agg #[.int .i64 s.ln, .int .i64 s.ld, .int .i64 s.hn, .int .i64 s.hd, .bool s.lc, .bool s.hc]
def spC (s:Sp) :List Value:= [.int .i64 s.ln, .int .i64 s.ld, .int .i64 s.hn, .int .i64 s.hd, .bool s.lc, .bool s.hc]
theorem GC (f d lo hi:Int) (w:World) (hh:hi=lo+2) (f1: -1048576≤f) (f2:f≤1048576) (d1: -1048576≤d) (d2:d≤1048576) (l1: -1048576≤lo) (l2:lo≤1048576) :
  Calls Tryz.prog 199 #[.int .i64 f, .int .i64 d, .int .i64 lo, .int .i64 hi] w fun e w'=>e= .returned (.tuple #[PY (QE f d lo), .bool (Kj f d lo)])∧Over w w':=by
 subst hh
 have tv:∀ {s s':Sp} {a a':Bool},s'=s→a'=a→Ending.returned (.tuple #[PY s, .bool a]) =Ending.returned (.tuple #[PY s', .bool a']) :=fun h1 h2=>by rw [h1,h2]
 refine jU (m:=45) (Tryz.func199) J J (lb J) ?_;refine S3 ?_;refine aL (fun b1=> ?_);refine N10 ?_;refine cZ (fun c1=> ?_) (fun c1=> ?_)
 ·refine S10 ?_;refine a9 (JV J J (uD J J J J J)) ?_;refine S7 ?_;refine J6 J (J3 (k:=0) J qh J J) (.tmp J) ?_
  intro w' hs
  exact⟨tv (s:=⟨lo- f,d,true,lo+2- f,d,false⟩) (by rw [QE,if_pos c1]) (by simp [Kj];omega),hs.fin⟩
 ·refine S6 ?_;refine cZ (fun c2=> ?_) (fun c2=> ?_)
  ·refine S6 ?_;refine a9 (YT J J (by omega) (by omega)) ?_;refine S4 ?_;refine a9 (YT J J (by omega) (by omega)) ?_;refine a9 (JV J J (uE J J J J J)) ?_;refine S7 ?_;refine J6 J (J3 (k:=0) J qh J J) (.tmp J) ?_
   intro w' hs
   exact⟨tv (s:=⟨f- (lo+2),-d,false,f- lo,-d,true⟩) (by rw [QE,if_neg (by omega),if_pos c2];congr 1;omega) (by simp [Kj];omega),hs.fin⟩
  ·refine S5 ?_;refine a9 (JV J J (vH J J J J J J)) ?_;refine S4 ?_;refine cV 40 (fun g1=> ?_) (fun g1=> ?_)
   ·refine S12 ?_;refine J6 J (J3 (k:=0) J qh J J) (.tmp J) ?_
    intro w' hs
    exact⟨tv (s:=Wq) (by rw [QE,if_neg (by omega),if_neg (by omega)]) (by simp [Kj,show d=0 by omega,g1]),hs.fin⟩
   ·refine S9 ?_;refine J6 J (J3 (k:=0) J qh J J) (.tmp J) ?_
    intro w' hs
    exact⟨tv (s:=Wq) (by rw [QE,if_neg (by omega),if_neg (by omega)]) (by simp [Kj,show d=0 by omega];omega),hs.fin⟩
theorem BX {a b c d:Int} (h:bd1 a b) (k:bd1 c d) : (-4398046511104≤a*d∧a*d≤4398046511104)∧(-4398046511104≤c*b∧c*b≤4398046511104) :=by
 obtain ⟨⟨a1,a2⟩,a3,a4⟩ :=h
 obtain ⟨⟨b1,b2⟩,b3,b4⟩ :=k
 exact⟨kg a1 a2 b3 b4,kg b1 b2 a3 a4⟩
theorem GD (s x:Sp) (w:World) (hs:bdP s) (hx:bdP x) :
  Calls Tryz.prog 200 #[PY s,PY x] w fun e w'=>e= .returned (PY (JT s x))∧Over w w':=by
 have hs1:=wt hs hx
 obtain ⟨m1,m2⟩ :=BX hs.low hx.low
 obtain ⟨m3,m4⟩ :=BX hs1.high hx.high
 refine jU (m:=70) (Tryz.func200) J J (lb J) ?_;refine S3 ?_;refine aX (fun b1=> ?_);refine N1 ?_;refine aX (fun b2=> ?_);refine N1 ?_;refine aL (fun b3=> ?_);refine N16 ?_;refine wW [] ([.cel b1 211 (spC (qE s x)), .cel b2 211 (spC x), .cel b3 211 [.int .i64 0, .int .i64 0, .int .i64 0, .int .i64 0, .bool false, .bool false]]) (kK [2,3,4]) (fun L h_t28=> ?_) ?_
 ·refine qd [(28, .bool (um s x))] (kK [2,3,4]) (fun L h_2=> ?_) ?_
  ·refine S4 ?_;refine cV 20 (fun g1=> ?_) (fun g1=> ?_)
   ·refine S9 ?_
    exact Jb h_2 ⟨vb (by symm;simp [um];omega),sz⟩ (u9 J)
   ·refine S6 ?_;refine cV 23 (fun g2=> ?_) (fun g2=> ?_)
    ·refine S10 ?_
     exact Jb h_2 ⟨vb (by simp [um,g2]),sz⟩ (u9 J)
    ·refine S7 ?_
     exact Jb h_2 ⟨vb (by symm;simp [um];omega),sz⟩ (u9 J)
  ·refine v9 ?_;refine cZ (fun c1=> ?_) (fun c1=> ?_)
   ·refine S6 ?_;refine Md (k:=0) J J J J (J) (by rfl) kd.szx J ?_;refine N7 ?_;refine Mf (k:=0) J J J J (J) (by rfl) kd.szx J ?_;refine N6 ?_;refine Mj (k:=0) J J J J (J) (by rfl) U6.szx J ?_;refine N1 ?_
    exact Jb h_t28 ⟨J,sz⟩ (fun _ h=>h.upto ⟨by rw [qE,if_pos c1] <;>rfl,sz⟩)
   ·refine S2 ?_
    exact Jb h_t28 ⟨J,sz⟩ (fun _ h=>h.upto ⟨by rw [qE,c1] <;>rfl,sz⟩)
 ·refine V15 ?_;refine wW [] ([.cel b1 211 (spC (JT s x)), .cel b2 211 (spC x), .cel b3 211 [.int .i64 0, .int .i64 0, .int .i64 0, .int .i64 0, .bool false, .bool false]]) (kK [2,4]) (fun L h_t59=> ?_) ?_
  ·refine qd [(59, .bool (wE (qE s x) x))] (kK [2,3,4]) (fun L h_7=> ?_) ?_
   ·refine S4 ?_;refine cV 51 (fun g3=> ?_) (fun g3=> ?_)
    ·refine S9 ?_
     exact Jb h_7 ⟨vb (by symm;simp [wE];omega),sz⟩ (u9 J)
    ·refine S6 ?_;refine cV 54 (fun g4=> ?_) (fun g4=> ?_)
     ·refine S10 ?_
      exact Jb h_7 ⟨vb (by simp [wE,g4]),sz⟩ (u9 J)
     ·refine S7 ?_
      exact Jb h_7 ⟨vb (by symm;simp [wE];omega),sz⟩ (u9 J)
   ·refine v9 ?_;refine cZ (fun c2=> ?_) (fun c2=> ?_)
    ·refine S6 ?_;refine Mg (k:=0) J J J J (J) (by rfl) kd.szx J ?_;refine N7 ?_;refine Mh (k:=0) J J J J (J) (by rfl) kd.szx J ?_;refine N6 ?_;refine Mk (k:=0) J J J J (J) (by rfl) U6.szx J ?_;refine N1 ?_
     exact Jb h_t59 ⟨J,sz⟩ (fun _ h=>h.upto ⟨by rw [JT,QS,if_pos c2] <;>rfl,sz⟩)
    ·refine S2 ?_
     exact Jb h_t59 ⟨J,sz⟩ (fun _ h=>h.upto ⟨by rw [JT,QS,c2] <;>rfl,sz⟩)
  ·refine V7 ?_;refine jL J (J3 (k:=2) J qh J J) ?_
   intro w' hs
   exact⟨rfl,hs.fin⟩
theorem Oi (ax ay bx b_y px_ py_:Int) (w:World) (ha:wU ax ay=true) (hb:wU bx b_y=true) (hp:wU px_ py_=true) :
  Calls Tryz.prog 190 #[W2 ax ay,W2 bx b_y,W2 px_ py_] w fun e w'=>e= .returned (.tuple #[PY (if(Kj (2*ax) (2* (bx- ax)) (2*px_- 1) &&Kj (2*ay) (2* (b_y- ay)) (2*py_- 1)) =true then JT (JT Wq (QE (2*ax) (2* (bx- ax)) (2*px_- 1))) (QE (2*ay) (2* (b_y- ay)) (2*py_- 1)) else Wq),
   .bool (xm (2*ax) (2* (bx- ax)) (2*px_- 1) (2*ay) (2* (b_y- ay)) (2*py_- 1))])∧Over w w':=by
 simp [wU,XA] at ha hb hp
 have hx:=zC (2*ax) (2* (bx- ax)) (2*px_- 1) (by omega) (by omega) (by omega) (by omega) (by omega) (by omega)
 have hy:=zC (2*ay) (2* (b_y- ay)) (2*py_- 1) (by omega) (by omega) (by omega) (by omega) (by omega) (by omega)
 have h1:=wM (wt MB hx) hx
 obtain ⟨sx,ex⟩ :∃s,QE (2*ax) (2* (bx- ax)) (2*px_- 1) =s:=⟨_,rfl⟩
 obtain ⟨sy,ey⟩ :∃s,QE (2*ay) (2* (b_y- ay)) (2*py_- 1) =s:=⟨_,rfl⟩
 obtain ⟨ix,jx⟩ :∃s,Kj (2*ax) (2* (bx- ax)) (2*px_- 1) =s:=⟨_,rfl⟩
 obtain ⟨iy,jy⟩ :∃s,Kj (2*ay) (2* (b_y- ay)) (2*py_- 1) =s:=⟨_,rfl⟩
 unfold xm
 rw [ex] at hx h1
 rw [ey] at hy
 rw [ex,ey,jx,jy]
 change bdP (JT Wq sx) at h1
 obtain ⟨s2,e2⟩ :∃s,JT (JT Wq sx) sy=s:=⟨_,rfl⟩
 rw [e2]
 have h2:bdP (JT (JT Wq sx) sy) :=wM (wt h1 hy) hy
 rw [e2] at h2
 obtain ⟨m1,m2⟩ :=BX h2.low h2.high
 have hA:∀w,Calls Tryz.prog 199 #[.int .i64 (2*ax), .int .i64 (2* (bx- ax)), .int .i64 (2*px_- 1), .int .i64 (2*px_+1)] w fun e w'=>e= .returned (.tuple #[PY sx, .bool ix])∧Over w w':=fun w=>ex▸jx▸GC _ _ _ _ w (by omega) (by omega) (by omega) (by omega) (by omega) (by omega) (by omega)
 have hB:∀w,Calls Tryz.prog 199 #[.int .i64 (2*ay), .int .i64 (2* (b_y- ay)), .int .i64 (2*py_- 1), .int .i64 (2*py_+1)] w fun e w'=>e= .returned (.tuple #[PY sy, .bool iy])∧Over w w':=fun w=>ey▸jy▸GC _ _ _ _ w (by omega) (by omega) (by omega) (by omega) (by omega) (by omega) (by omega)
 have hC:∀w,Calls Tryz.prog 200 #[PY (JT Wq sx),PY sy] w fun e w'=>e= .returned (PY s2)∧Over w w':=fun w=>e2▸GD _ _ w h1 hy
 refine jU (m:=95) (Tryz.func190) J J (lb J) ?_;refine S3 ?_;refine aX (fun b1=> ?_);refine N1 ?_;refine aX (fun b2=> ?_);refine N1 ?_;refine aX (fun b3=> ?_);refine N1 ?_;refine aL (fun b4=> ?_);refine N4 ?_;refine a9 (JV J J (vH J J J J J J)) ?_;refine S1 ?_;refine aL (fun b5=> ?_);refine N22 ?_;refine a9 (jH yZ J J (fun w h=>hA w)) ?_;refine S4 ?_;refine aL (fun b6=> ?_);refine N23 ?_;refine a9 (jH yZ J J (fun w h=>hB w)) ?_;refine S4 ?_;refine aL (fun b7=> ?_);refine N5 ?_;refine qd [(62, .bool (!(ix&&iy)))] (kK [6,7,8,9,11]) (fun L h_4=> ?_) ?_
 ·refine S4 ?_;refine cV 59 (fun g1=> ?_) (fun g1=> ?_)
  ·refine S4 ?_
   exact Jb h_4 ⟨vb (by simp [g1]),sz⟩ (u9 J)
  ·refine S6 ?_
   exact Jb h_4 ⟨vb (by simp [g1]),sz⟩ (u9 J)
 ·refine v9 ?_;refine cZ (fun c1=> ?_) (fun c1=> ?_)
  ·refine S9 ?_;refine J6 J (J3 (k:=3) J qh J J) (.tmp J) ?_
   intro w' hs
   have q: ((ix&&iy) =true) =False:= (by simp at c1;simp;exact c1)
   exact⟨by simp only [q,if_false];simp at c1;cases ix<;>simp_all [Wq],hs.fin⟩
  ·have q: (ix&&iy) =true:= (by simpa using c1)
   refine S4 ?_;refine Jw 5 ?_;refine dK 0 ?_;refine dK 1 ?_;refine dZ 2 J (jH y3 J J (fun w h=>GD Wq sx w MB hx)) ?_;refine dK 3 ?_;refine dZ 4 J (jH y3 J J (fun w h=>hC w)) ?_;refine K4 J (by kernel_rfl) J ?_;refine S1 ?_;refine yp (by kernel_rfl) ?_;refine S18 ?_;refine Q8 17 [3] ?_;refine dK 0 ?_;refine dK 1 ?_;refine dK 2 ?_;refine dK 3 ?_;refine cV 83 (fun g2=> ?_) (fun g2=> ?_)
   ·refine fK 4 ?_;refine fK 5 ?_;refine fK 6 ?_;refine HL (i:=7) J (by kernel_rfl) (by kernel_rfl) (by kernel_rfl) [] (by kernel_rfl) (fun _ _ _ h=>h) J J J J J (by decide) (uw [3] J) ?_;refine HL (i:=8) J (by kernel_rfl) (by kernel_rfl) (by kernel_rfl) [] (by kernel_rfl) (fun _ _ _ h=>h) J J J J J (by decide) (uw [3] J) ?_;refine fK 9 ?_;refine fK 10 ?_;refine HL (i:=11) J (by kernel_rfl) (by kernel_rfl) (by kernel_rfl) [] (by kernel_rfl) (fun _ _ _ h=>h) J J J J J (by decide) (uw [3] J) ?_;refine HL (i:=12) J (by kernel_rfl) (by kernel_rfl) (by kernel_rfl) [] (by kernel_rfl) (fun _ _ _ h=>h) J J J J J (by decide) (uw [3] J) ?_;refine fK 13 ?_;refine dK 14 ?_;refine Jh (i:=15) J (by decide) (by kernel_rfl) J ?_;refine S1 ?_;refine jJ (uw [3] J) ?_;refine dK 16 ?_;refine Jj (by kernel_rfl) ?_;refine S2 ?_;refine J6 J (J3 (k:=3) J qh J J) (.tmp J) ?_
    intro w' hs
    exact⟨by rw [if_pos q,q,jfe,show va s2=true from(by simp [va];omega)],hs.fin⟩
   ·refine eK 4 ?_;refine eK 5 ?_;refine eK 6 ?_;refine cV 86 (fun g3=> ?_) (fun g3=> ?_)
    ·refine eK 7 ?_;refine eK 8 ?_;refine eK 9 ?_;refine eK 10 ?_;refine cV 90 (fun g4=> ?_) (fun g4=> ?_)
     ·refine eK 11 ?_;refine eK 12 ?_;refine eK 13 ?_;refine dK 14 ?_;refine Jh (i:=15) J (by decide) (by kernel_rfl) J ?_;refine S1 ?_;refine jJ (uw [3] J) ?_;refine dK 16 ?_;refine Jj (by kernel_rfl) ?_;refine S2 ?_;refine J6 J (J3 (k:=3) J qh J J) (.tmp J) ?_
      intro w' hs
      exact⟨by rw [if_pos q,q,jfe,show va s2=s2.hc from(by simp [va, *])],hs.fin⟩
     ·refine fK 11 ?_;refine fK 12 ?_;refine eK 13 ?_;refine dK 14 ?_;refine Jh (i:=15) J (by decide) (by kernel_rfl) J ?_;refine S1 ?_;refine jJ (uw [3] J) ?_;refine dK 16 ?_;refine Jj (by kernel_rfl) ?_;refine S2 ?_;refine J6 J (J3 (k:=3) J qh J J) (.tmp J) ?_
      intro w' hs
      exact⟨by rw [if_pos q,q,jfe,show va s2=false from(by simp [va, *])],hs.fin⟩
    ·refine fK 7 ?_;refine fK 8 ?_;refine eK 9 ?_;refine eK 10 ?_;refine fK 11 ?_;refine fK 12 ?_;refine eK 13 ?_;refine dK 14 ?_;refine Jh (i:=15) J (by decide) (by kernel_rfl) J ?_;refine S1 ?_;refine jJ (uw [3] J) ?_;refine dK 16 ?_;refine Jj (by kernel_rfl) ?_;refine S2 ?_;refine J6 J (J3 (k:=3) J qh J J) (.tmp J) ?_
     intro w' hs
     exact⟨by rw [if_pos q,q,jfe,show va s2=false from(by simp [va];omega)],hs.fin⟩
end Go.Proofs.YtkagkgjjfdkoaaaGreat
