import Derived.Test.YtpncbbcmoiiipaaMMem
import Derived.Test.YtpncbbcmoiiipaaMDat
set_option linter.unusedVariables false
set_option linter.unusedSimpArgs false
namespace Go.Proofs.Ytpncbbcmoiiipaa
open Go Go.RowKit
set_option maxRecDepth 100000
set_option maxHeartbeats 4000000
structure Sp where
 ln:Int
 ld:Int
 lc:Bool
 hn:Int
 hd:Int
 hc:Bool
def K8:Sp:=⟨0,1,true,1,1,true⟩
def kn (s:Sp) :Bool:=decide (s.ln*s.hd- s.hn*s.ld<0) || (decide (s.ln*s.hd- s.hn*s.ld=0) &&s.lc&&s.hc)
def Vt (s x:Sp) :Bool:=decide (s.ln*x.ld- x.ln*s.ld<0) || (decide (s.ln*x.ld- x.ln*s.ld=0) && !x.lc)
def K6 (s x:Sp) :Bool:=decide (s.hn*x.hd- x.hn*s.hd>0) || (decide (s.hn*x.hd- x.hn*s.hd=0) && !x.hc)
def JQ (s x:Sp) :Sp:=if Vt s x=true then {s with ln:=x.ln,ld:=x.ld,lc:=x.lc} else s
def qD (s x:Sp) :Sp:=if K6 s x=true then {s with hn:=x.hn,hd:=x.hd,hc:=x.hc} else s
def Jj (s x:Sp) :Sp:=qD (JQ s x) x
theorem Q2 {a b c d e f:Int} (hd:0<d) (hb:0<b) (hf:0<f) (h1:a*d≤c*b) (h2:c*f≤e*d) :a*f≤e*b:=by
 have p1:=DJ h1 (FD hf)
 have p2:=DJ h2 (FD hb)
 have e1:a*d*f=a*f*d:=by rw [Fq,Fg d f,←Fq]
 have e2:c*b*f=c*f*b:=by rw [Fq,Fg b f,←Fq]
 have e3:e*d*b=e*b*d:=by rw [Fq,Fg d b,←Fq]
 rw [e1,e2] at p1
 rw [e3] at p2
 exact Fa (Int.le_trans p1 p2) hd
theorem ke {a b c d e f:Int} (hd:0<d) (hb:0<b) (hf:0<f) (h1:a*d<c*b) (h2:c*f≤e*d) :a*f<e*b:=by
 have p1:=D4 h1 hf
 have p2:=DJ h2 (FD hb)
 have e1:a*d*f=a*f*d:=by rw [Fq,Fg d f,←Fq]
 have e2:c*b*f=c*f*b:=by rw [Fq,Fg b f,←Fq]
 have e3:e*d*b=e*b*d:=by rw [Fq,Fg d b,←Fq]
 rw [e1,e2] at p1
 rw [e3] at p2
 exact Fj (Int.lt_of_lt_of_le p1 p2) (FD hd)
theorem QB {a b c d e f:Int} (hd:0<d) (hb:0<b) (hf:0<f) (h1:a*d≤c*b) (h2:c*f<e*d) :a*f<e*b:=by
 have p1:=DJ h1 (FD hf)
 have p2:=D4 h2 hb
 have e1:a*d*f=a*f*d:=by rw [Fq,Fg d f,←Fq]
 have e2:c*b*f=c*f*b:=by rw [Fq,Fg b f,←Fq]
 have e3:e*d*b=e*b*d:=by rw [Fq,Fg d b,←Fq]
 rw [e1,e2] at p1
 rw [e3] at p2
 exact Fj (Int.lt_of_le_of_lt p1 p2) (FD hd)
theorem La {s x:Sp} (h1:0<s.ld) (h2:0<s.hd) (h3:0<x.ld) (h:kn (JQ s x) =true) :kn s=true:=by
 unfold JQ at h
 split at h
 case isFalse=>exact h
 case isTrue hu=>
  simp only [kn,Vt,Fu,DL,decide_eq_true_eq,Fm] at*
  obtain ⟨sln,sld,slc,shn,shd,shc⟩ :=s
  obtain ⟨xln,xld,xlc,xhn,xhd,xhc⟩ :=x
  simp only at*
  rcases hu with hu |⟨hu,hx⟩
  ·left
   have:sln*shd<shn*sld:=by
    rcases h with h | h
    ·exact QB (d:=xld) (c:=xln) h3 h1 h2 Om Om
    ·exact ke (d:=xld) (c:=xln) h3 h1 h2 Om Om
   omega
  ·rcases h with h |⟨⟨h,h'⟩,_⟩
   ·left
    have:sln*shd<shn*sld:=QB (d:=xld) (c:=xln) h3 h1 h2 Om Om
    omega
   ·rw [hx] at h';cases h'
theorem GF {s x:Sp} (h1:0<s.ld) (h2:0<s.hd) (h3:0<x.hd) (h:kn (qD s x) =true) :kn s=true:=by
 unfold qD at h
 split at h
 case isFalse=>exact h
 case isTrue hu=>
  simp only [kn,K6,Fu,DL,decide_eq_true_eq,Fm] at*
  obtain ⟨sln,sld,slc,shn,shd,shc⟩ :=s
  obtain ⟨xln,xld,xlc,xhn,xhd,xhc⟩ :=x
  simp only at*
  rcases hu with hu |⟨hu,hx⟩
  ·left
   have:sln*shd<shn*sld:=by
    rcases h with h | h
    ·exact ke (d:=xhd) (c:=xhn) h3 h1 h2 Om Om
    ·exact QB (d:=xhd) (c:=xhn) h3 h1 h2 Om Om
   omega
  ·rcases h with h |⟨⟨h,_⟩,h'⟩
   ·left
    have:sln*shd<shn*sld:=ke (d:=xhd) (c:=xhn) h3 h1 h2 Om Om
    omega
   ·rw [hx] at h';cases h'
def qB (f d lo:Int) :Sp:=if 0<d then⟨lo- f,d,true,lo+2- f,d,false⟩ else if d<0 then⟨f- lo- 2,-d,false,f- lo,-d,true⟩ else K8
def kw (f d lo:Int) :Bool:= !decide (d=0) || (decide (lo≤f) &&decide (f<lo+2))
def kk (s:Sp) (f d lo:Int) :Sp:=if d=0 then s else Jj s (qB f d lo)
def KB (s:Sp) (f d lo:Int) :Bool:=if d=0 then decide (lo≤f) &&decide (f<lo+2) else kn (Jj s (qB f d lo))
theorem qM (f d lo:Int) :0< (qB f d lo).ld∧0< (qB f d lo).hd:=by
 unfold qB
 split
 ·exact⟨by assumption,by assumption⟩
 ·split
  ·exact⟨by simp;omega,by simp;omega⟩
  ·exact⟨by decide,by decide⟩
theorem VK {s x:Sp} (h:0<s.ld∧0<s.hd) (hx:0<x.ld∧0<x.hd) :0< (JQ s x).ld∧0< (JQ s x).hd:=by
 unfold JQ;split
 ·exact⟨hx.1,h.2⟩
 ·exact h
theorem Qh {s x:Sp} (h:0<s.ld∧0<s.hd) (hx:0<x.ld∧0<x.hd) :0< (Jj s x).ld∧0< (Jj s x).hd:=by
 have h':=VK h hx
 unfold Jj qD;split
 ·exact⟨h'.1,hx.2⟩
 ·exact h'
theorem KI:0<K8.ld∧0<K8.hd:=⟨by decide,by decide⟩
theorem GG {s x:Sp} (h:0<s.ld∧0<s.hd) (hx:0<x.ld∧0<x.hd) (hn:kn (Jj s x) =true) :kn s=true:=by
 have h':=VK h hx
 exact La h.1 h.2 hx.1 (GF h'.1 h'.2 hx.2 hn)
def YA (s:Sp) :Prop:=0≤s.ln∧s.hn≤s.hd
theorem YB {x:Sp} :YA (Jj K8 x) :=by
 unfold YA Jj qD JQ K6 Vt K8
 constructor
 ·split<;>split<;>simp_all<;>omega
 ·split<;>split<;>simp_all<;>omega
theorem Zf {s:Sp} (h:YA s) :Jj s K8=s:=by
 obtain ⟨h1,h2⟩ :=h
 have e1:Vt s K8=false:=by simp [Vt,K8];omega
 have e2:K6 s K8=false:=by simp [K6,K8];omega
 have e3:JQ s K8=s:=by rw [JQ,e1];rfl
 rw [Jj,e3,qD,e2];rfl
theorem ye:YA K8:=⟨by decide,by decide⟩
def UN (f d lo f' d' lo':Int) :Bool:=kw f d lo&&kw f' d' lo'&&kn (Jj (Jj K8 (qB f d lo)) (qB f' d' lo'))
theorem kg (f lo:Int) :qB f 0 lo=K8:=by simp [qB]
theorem UG {s:Sp} (h:YA s) (f d lo:Int) :kk s f d lo=Jj s (qB f d lo) :=by
 unfold kk
 split
 ·rename_i h0;subst h0;rw [kg,Zf h]
 ·rfl
theorem zF {s:Sp} (h:YA s) (hn:kn s=true) (f d lo:Int) :KB s f d lo= (kw f d lo&&kn (Jj s (qB f d lo))) :=by
 unfold KB kw
 split
 ·rename_i h0;subst h0;rw [kg,Zf h,hn];simp
 ·rename_i h0;simp [h0]
theorem zH (f d lo f' d' lo':Int) :UN f d lo f' d' lo'= (KB K8 f d lo&&KB (kk K8 f d lo) f' d' lo') :=by
 have hn0:kn K8=true:=by decide
 rw [UG ye,zF ye hn0,UN]
 cases h1:kw f d lo
 ·simp
 ·cases h2:kn (Jj K8 (qB f d lo))
  ·have:kn (Jj (Jj K8 (qB f d lo)) (qB f' d' lo')) =false:=by
    cases h3:kn (Jj (Jj K8 (qB f d lo)) (qB f' d' lo'))
    ·rfl
    ·have:=GG (Qh KI (qM _ _ _)) (qM _ _ _) h3
     rw [h2] at this;cases this
   simp [this]
  ·rw [zF YB h2]
   simp
abbrev B3 (n d:Int) (c:Bool) :Value:= .agg #[.int .i64 n, .int .i64 d, .bool c]
def MP (n d:Int) :Prop:= (-2097152≤n∧n≤2097152)∧-2097152≤d∧d≤2097152
theorem kd (n d n' d':Int) (c c':Bool) (w:World) (h:MP n d) (h':MP n' d') :
  Calls Try.prog 63 #[B3 n d c,B3 n' d' c'] w fun e w'=>e= .returned (.int .i64 (KN (n*d'- n'*d)))∧Over w w':=by
 obtain ⟨⟨a1,a2⟩,a3,a4⟩ :=h
 obtain ⟨⟨b1,b2⟩,b3,b4⟩ :=h'
 obtain ⟨m1,m1'⟩ :=Qk a1 a2 b3 b4
 obtain ⟨m2,m2'⟩ :=Qk b1 b2 a3 a4
 refine Jh (m:=17) (Try.func63) J J (lb J) ?_;refine S3 ?_;refine aX (fun b1=> ?_);refine N1 ?_;refine aX (fun b2=> ?_);refine De ?_;refine a9 (jN qL J J (fun w h=> (Qv _ w).mono fun e w' ⟨he,hw⟩ =>⟨he,hw▸Over.refl _⟩)) ?_;refine S3 ?_;refine jG J (.tmp J) ?_
 intro w' hs
 exact⟨rfl,hs.fin⟩
def GW (s:Sp) :List Value:= [.int .i64 s.ln, .int .i64 s.ld, .bool s.lc, .int .i64 s.hn, .int .i64 s.hd, .bool s.hc]
structure bdP (s:Sp) :Prop where
 low:MP s.ln s.ld
 high:MP s.hn s.hd
theorem Uk (f d lo:Int) (f1: -524288≤f) (f2:f≤524288) (d1: -1048576≤d) (d2:d≤1048576) (l1: -524289≤lo) (l2:lo≤524289) :bdP (qB f d lo) :=by
 unfold qB
 split
 ·exact⟨⟨⟨by simp;omega,by simp;omega⟩,by simp;omega,by simp;omega⟩,⟨by simp;omega,by simp;omega⟩,by simp;omega,by simp;omega⟩
 ·split
  ·exact⟨⟨⟨by simp;omega,by simp;omega⟩,by simp;omega,by simp;omega⟩,⟨by simp;omega,by simp;omega⟩,by simp;omega,by simp;omega⟩
  ·exact⟨⟨⟨by decide,by decide⟩,by decide,by decide⟩,⟨by decide,by decide⟩,by decide,by decide⟩
theorem v6 {s x:Sp} (hs:bdP s) (hx:bdP x) :bdP (JQ s x) :=by
 unfold JQ;split
 ·exact⟨hx.low,hs.high⟩
 ·exact hs
theorem vd {s x:Sp} (hs:bdP s) (hx:bdP x) :bdP (qD s x) :=by
 unfold qD;split
 ·exact⟨hs.low,hx.high⟩
 ·exact hs
theorem XX {n:Int} : (KN n<0)↔n<0:=by unfold KN;split<;> (try split) <;>omega
theorem QG (n:Int) : (n<0∧KN n= -1)∨(n=0∧KN n=0)∨(0<n∧KN n=1) :=by unfold KN;split<;> (try split) <;>omega
theorem zG (b:Nat) (s:Sp) (f d lo:Int) (w:World) (hs:bdP s) (f1: -524288≤f) (f2:f≤524288) (d1: -1048576≤d) (d2:d≤1048576) (l1: -524289≤lo) (l2:lo≤524289)
  (hh:w.heap[b]? =some (.cells (GW s).toArray 106 (0,0))) :
  Calls Try.prog 84 #[.pointer (some ⟨b,0,none⟩), .int .i64 f, .int .i64 d, .int .i64 lo] w fun e w'=>e= .returned (.bool (KB s f d lo))∧Wr b w w'∧w'.heap[b]? =some (.cells (GW (kk s f d lo)).toArray 106 (0,0)) :=by
 have hx:=Uk f d lo f1 f2 d1 d2 l1 l2
 obtain ⟨x,ex⟩ :∃x,qB f d lo=x:=⟨_,rfl⟩
 rw [ex] at hx
 have hs1:=v6 hs hx
 have hs2:=vd hs1 hx
 obtain ⟨x1,x2⟩ :=hx
 obtain ⟨y1,y2⟩ :=hs
 obtain ⟨z1,z2⟩ :=hs1
 obtain ⟨u1,u2⟩ :=hs2
 refine QU (m:=122) (Try.func84) J J (lb J) (hh) ?_;refine Dg ?_;refine cZ (fun c1=> ?_) (fun c1=> ?_)
 ·refine S6 ?_;refine cV 19 (fun g1=> ?_) (fun g1=> ?_)
  ·refine Dj ?_;refine jG J (.tmp J) ?_
   intro w' hs
   exact⟨by subst c1;simp [KB,g1],hs.over.wr,by subst c1;simpa [kk] using hs.cel (k:=0) rfl⟩
  ·refine S9 ?_;refine jG J (.tmp J) ?_
   intro w' hs
   exact⟨by subst c1;simp [KB];omega,hs.over.wr,by subst c1;simpa [kk] using hs.cel (k:=0) rfl⟩
 ·refine S8 ?_;refine a9 (JU J J (qs J J J)) ?_;refine S5 ?_;refine a9 (JU J J (qs J J J)) ?_;refine S1 ?_;refine aL (fun b1=> ?_);refine N1 ?_;refine aL (fun b2=> ?_);refine N5 ?_;refine UB [] ([.cel b 106 (GW s), .cel b1 104 [.int .i64 x.ln, .int .i64 x.ld, .bool x.lc], .cel b2 104 [.int .i64 x.hn, .int .i64 x.hd, .bool x.hc]]) (kK [0,8,9,10]) (fun L h_t37=> ?_) ?_
  ·refine S5 ?_;refine cZ (fun c2=> ?_) (fun c2=> ?_)
   ·refine S6 ?_;refine a9 (Y9 J J Om Om) ?_;refine a9 (JU J J (qs J J J)) ?_;refine S4 ?_;refine a9 (Y9 J J Om Om) ?_;refine a9 (JU J J (qs J J J)) ?_;refine S5 ?_
    exact JB h_t37 ⟨J,sz⟩ (fun _ h=>h.upto ⟨J,by rw [←ex,qB,if_neg Om,if_pos c2] <;>rfl,by rw [←ex,qB,if_neg Om,if_pos c2] <;>rfl,trivial⟩)
   ·refine S2 ?_
    exact JB h_t37 ⟨J,sz⟩ (fun _ h=>h.upto ⟨J,by rw [←ex,qB,if_pos Om] <;>rfl,by rw [←ex,qB,if_pos Om] <;>rfl,trivial⟩)
  ·refine v9 ?_;refine UB [] ([.cel b 106 (GW (JQ s x)), .cel b1 104 [.int .i64 x.ln, .int .i64 x.ld, .bool x.lc], .cel b2 104 [.int .i64 x.hn, .int .i64 x.hd, .bool x.hc]]) (kK [0,8,10]) (fun L h_t67=> ?_) ?_
   ·refine S2 ?_;refine qb 7 ?_;refine dK 0 ?_;refine dK 1 ?_;refine dK 2 ?_;refine dK 3 ?_;refine dK 4 ?_;refine dZ 5 J (jN Qp J J (fun w h=>kd _ _ _ _ _ _ w (by assumption) (by assumption))) ?_;refine dK 6 ?_;refine JI Kr ?_;refine S1 ?_;refine ky [(67, .bool (Vt s x))] (kK [0,8,9,10]) (fun L h_7=> ?_) ?_
    ·refine S4 ?_;refine cV 59 (fun g2=> ?_) (fun g2=> ?_)
     ·refine S9 ?_
      exact JB h_7 ⟨vb (by have k:=QG (x.ln*s.ld- s.ln*x.ld);symm;simp [Vt];omega),sz⟩ (u9 rfl)
     ·refine S6 ?_;refine cV 62 (fun g3=> ?_) (fun g3=> ?_)
      ·refine Dg ?_
       exact JB h_7 ⟨vb (by have k:=QG (x.ln*s.ld- s.ln*x.ld);have e:s.ln*x.ld- x.ln*s.ld=0:=Om;simp [Vt,e]),sz⟩ (u9 rfl)
      ·refine S7 ?_
       exact JB h_7 ⟨vb (by have k:=QG (x.ln*s.ld- s.ln*x.ld);symm;simp [Vt];omega),sz⟩ (u9 rfl)
    ·refine v9 ?_;refine cZ (fun c3=> ?_) (fun c3=> ?_)
     ·refine S6 ?_;refine U1 (k:=0) J J J J (J) (by rfl) qQ.szx J ?_;refine N1 ?_
      exact JB h_t67 ⟨J,sz⟩ (fun _ h=>h.upto ⟨by rw [JQ,if_pos c3] <;>rfl,sz⟩)
     ·refine S2 ?_
      exact JB h_t67 ⟨J,sz⟩ (fun _ h=>h.upto ⟨by rw [JQ,c3] <;>rfl,sz⟩)
   ·refine v9 ?_;refine UB [] ([.cel b 106 (GW (Jj s x)), .cel b1 104 [.int .i64 x.ln, .int .i64 x.ld, .bool x.lc], .cel b2 104 [.int .i64 x.hn, .int .i64 x.hd, .bool x.hc]]) (kK [0,8]) (fun L h_t88=> ?_) ?_
    ·refine S2 ?_;refine qb 7 ?_;refine dK 0 ?_;refine dK 1 ?_;refine dK 2 ?_;refine dK 3 ?_;refine dK 4 ?_;refine dZ 5 J (jN Qp J J (fun w h=>kd _ _ _ _ _ _ w (by assumption) (by assumption))) ?_;refine dK 6 ?_;refine JI Kr ?_;refine S1 ?_;refine ky [(88, .bool (K6 (JQ s x) x))] (kK [0,8,10]) (fun L h_10=> ?_) ?_
     ·refine S4 ?_;refine cV 80 (fun g4=> ?_) (fun g4=> ?_)
      ·refine S9 ?_
       exact JB h_10 ⟨vb (by have k:=QG (x.hn* (JQ s x).hd- (JQ s x).hn*x.hd);symm;simp [K6];omega),sz⟩ (u9 rfl)
      ·refine S6 ?_;refine cV 83 (fun g5=> ?_) (fun g5=> ?_)
       ·refine Dg ?_
        exact JB h_10 ⟨vb (by have k:=QG (x.hn* (JQ s x).hd- (JQ s x).hn*x.hd);have e: (JQ s x).hn*x.hd- x.hn* (JQ s x).hd=0:=Om;simp [K6,e]),sz⟩ (u9 rfl)
       ·refine S7 ?_
        exact JB h_10 ⟨vb (by have k:=QG (x.hn* (JQ s x).hd- (JQ s x).hn*x.hd);symm;simp [K6];omega),sz⟩ (u9 rfl)
     ·refine v9 ?_;refine cZ (fun c4=> ?_) (fun c4=> ?_)
      ·refine S6 ?_;refine U2 (k:=0) J J J J (J) (by rfl) qQ.szx J ?_;refine N1 ?_
       exact JB h_t88 ⟨J,sz⟩ (fun _ h=>h.upto ⟨by rw [Jj,qD,if_pos c4] <;>rfl,sz⟩)
      ·refine S2 ?_
       exact JB h_t88 ⟨J,sz⟩ (fun _ h=>h.upto ⟨by rw [Jj,qD,c4] <;>rfl,sz⟩)
    ·refine V2 ?_;refine qb 10 ?_;refine dK 0 ?_;refine dK 1 ?_;refine dK 2 ?_;refine dK 3 ?_;refine dK 4 ?_;refine dK 5 ?_;refine dK 6 ?_;refine dK 7 ?_;refine dZ 8 J (jN Qp J J (fun w h=>kd _ _ _ _ _ _ w (by assumption) (by assumption))) ?_;refine dK 9 ?_;refine JI Kr ?_;refine S6 ?_;refine cV 104 (fun g6=> ?_) (fun g6=> ?_)
     ·refine Dq ?_;refine jG J (.tmp J) ?_
      intro w' hs
      have k:=QG ((Jj s x).ln* (Jj s x).hd- (Jj s x).hn* (Jj s x).ld)
      exact⟨Qy (by rw [KB,if_neg c1,ex];symm;simp [kn];omega),hs.over.wr,by rw [kk,if_neg c1,ex];exact hs.cel (k:=0) rfl⟩
     ·refine S6 ?_;refine cV 107 (fun g7=> ?_) (fun g7=> ?_)
      ·refine Dk ?_;refine cV 114 (fun g8=> ?_) (fun g8=> ?_)
       ·refine Dm ?_;refine jG J (.tmp J) ?_
        intro w' hs
        have k:=QG ((Jj s x).ln* (Jj s x).hd- (Jj s x).hn* (Jj s x).ld)
        have e: (Jj s x).ln* (Jj s x).hd- (Jj s x).hn* (Jj s x).ld=0:=Om
        exact⟨Qy (by rw [KB,if_neg c1,ex];simp [kn,e, *]),hs.over.wr,by rw [kk,if_neg c1,ex];exact hs.cel (k:=0) rfl⟩
       ·refine Dh ?_;refine jG J (.tmp J) ?_
        intro w' hs
        have k:=QG ((Jj s x).ln* (Jj s x).hd- (Jj s x).hn* (Jj s x).ld)
        have e: (Jj s x).ln* (Jj s x).hd- (Jj s x).hn* (Jj s x).ld=0:=Om
        exact⟨Qy (by rw [KB,if_neg c1,ex];simp [kn,e, *]),hs.over.wr,by rw [kk,if_neg c1,ex];exact hs.cel (k:=0) rfl⟩
      ·refine Dq ?_;refine jG J (.tmp J) ?_
       intro w' hs
       have k:=QG ((Jj s x).ln* (Jj s x).hd- (Jj s x).hn* (Jj s x).ld)
       exact⟨Qy (by rw [KB,if_neg c1,ex];symm;simp [kn];omega),hs.over.wr,by rw [kk,if_neg c1,ex];exact hs.cel (k:=0) rfl⟩
abbrev M1 (s:Sp) :Value:= .agg #[.int .i64 s.ln, .int .i64 s.ld, .bool s.lc, .int .i64 s.hn, .int .i64 s.hd, .bool s.hc]
theorem xS:bdP K8:=⟨⟨by decide,by decide⟩,by decide,by decide⟩
theorem Hm {s:Sp} {f d lo:Int} (hs:bdP s) (hx:bdP (qB f d lo)) :bdP (kk s f d lo) :=by
 unfold kk;split
 ·exact hs
 ·exact vd (v6 hs hx) hx
theorem yN (ax ay bx b_y px_ py_:Int) (w:World) (ha:KD ax ay=true) (hb:KD bx b_y=true) (hp:KD px_ py_=true) :
  Calls Try.prog 60 #[vS ax ay,vS bx b_y,vS px_ py_] w fun e w'=>e= .returned (.tuple #[M1 (if KB K8 (2*ax) (2* (bx- ax)) (2*px_- 1) =true then kk (kk K8 (2*ax) (2* (bx- ax)) (2*px_- 1)) (2*ay) (2* (b_y- ay)) (2*py_- 1) else kk K8 (2*ax) (2* (bx- ax)) (2*px_- 1)),
   .bool (KB K8 (2*ax) (2* (bx- ax)) (2*px_- 1) &&KB (kk K8 (2*ax) (2* (bx- ax)) (2*px_- 1)) (2*ay) (2* (b_y- ay)) (2*py_- 1))])∧Over w w':=by
 simp [KD,wB] at ha hb hp
 have hs1:=Hm (f:=2*ax) (d:=2* (bx- ax)) (lo:=2*px_- 1) xS (Uk _ _ _ Om Om Om Om Om Om)
 refine Jh (m:=45) (Try.func60) J J (lb J) ?_;refine S3 ?_;refine aX (fun b1=> ?_);refine N1 ?_;refine aX (fun b2=> ?_);refine N1 ?_;refine aX (fun b3=> ?_);refine N1 ?_;refine aL (fun b4=> ?_);refine N4 ?_;refine a9 (JU J J (qs J J J)) ?_;refine a9 (JU J J (qs J J J)) ?_;refine a9 (JU J J (vV J J)) ?_;refine S1 ?_;refine aL (fun b5=> ?_);refine N4 ?_;refine O1 (Rs':= [.cel b1 27 [.int .i64 ax, .int .i64 ay], .cel b2 27 [.int .i64 bx, .int .i64 b_y], .cel b3 27 [.int .i64 px_, .int .i64 py_], .cel b4 106 [.int .i64 0, .int .i64 0, .bool false, .int .i64 0, .int .i64 0, .bool false], .cel b5 106 (GW K8)]) (fun _ h=>h) ?_;refine Dl ?_;refine QE (k:=4) ku J J J Dc J (fun w h=>zG b5 K8 (2*ax) (2* (bx- ax)) (2*px_- 1) w xS Om Om Om Om Om Om (h.cel (k:=4) J)) ?_;refine N1 ?_;refine cV 27 (fun g1=> ?_) (fun g1=> ?_)
 ·refine Dt ?_;refine QE (k:=4) ku J J J Dc J (fun w h=>zG b5 (kk K8 (2*ax) (2* (bx- ax)) (2*px_- 1)) (2*ay) (2* (b_y- ay)) (2*py_- 1) w hs1 Om Om Om Om Om Om (h.cel (k:=4) J)) ?_;refine Da ?_;refine qS J (qO (k:=3) J QT J J) (.tmp J) ?_
  intro w' hs
  exact⟨by rw [if_pos g1,g1,FB];rfl,hs.fin⟩
 ·refine Ds ?_;refine qS J (qO (k:=3) J QT J J) (.tmp J) ?_
  intro w' hs
  exact⟨by rw [if_neg (by rw [g1];simp),g1,FH];rfl,hs.fin⟩
end Go.Proofs.Ytpncbbcmoiiipaa
