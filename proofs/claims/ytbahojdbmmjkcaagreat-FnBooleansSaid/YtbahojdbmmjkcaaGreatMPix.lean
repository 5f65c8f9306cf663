import Derived.Test.YtbahojdbmmjkcaaGreatMMem
import Derived.Test.YtbahojdbmmjkcaaGreatML2
set_option linter.unusedVariables false
set_option linter.unusedSimpArgs false
namespace Go.Proofs.YtbahojdbmmjkcaaGreat
open Go Go.RowKit
set_option maxRecDepth 100000
set_option maxHeartbeats 4000000
structure Sp where
 ln:Int
 ld:Int
 lc:Bool
 hn:Int
 hd:Int
 hc:Bool
def uu:Sp:=⟨0,1,true,1,1,true⟩
def vT (s:Sp) :Bool:=decide (s.ln*s.hd- s.hn*s.ld<0) || (decide (s.ln*s.hd- s.hn*s.ld=0) &&s.lc&&s.hc)
def Uz (s x:Sp) :Bool:=decide (s.ln*x.ld- x.ln*s.ld<0) || (decide (s.ln*x.ld- x.ln*s.ld=0) && !x.lc)
def WE (s x:Sp) :Bool:=decide (s.hn*x.hd- x.hn*s.hd>0) || (decide (s.hn*x.hd- x.hn*s.hd=0) && !x.hc)
def qV (s x:Sp) :Sp:=if Uz s x=true then {s with ln:=x.ln,ld:=x.ld,lc:=x.lc} else s
def kh (s x:Sp) :Sp:=if WE s x=true then {s with hn:=x.hn,hd:=x.hd,hc:=x.hc} else s
def J6 (s x:Sp) :Sp:=kh (qV s x) x
theorem vq {a b c d e f:Int} (hd:0<d) (hb:0<b) (hf:0<f) (h1:a*d≤c*b) (h2:c*f≤e*d) :a*f≤e*b:=by
 have p1:=jjn h1 (jj7 hf)
 have p2:=jjn h2 (jj7 hb)
 have e1:a*d*f=a*f*d:=by rw [jkp,jj1 d f,←jkp]
 have e2:c*b*f=c*f*b:=by rw [jkp,jj1 b f,←jkp]
 have e3:e*d*b=e*b*d:=by rw [jkp,jj1 d b,←jkp]
 rw [e1,e2] at p1
 rw [e3] at p2
 exact jjY (jkF p1 p2) hd
theorem wy {a b c d e f:Int} (hd:0<d) (hb:0<b) (hf:0<f) (h1:a*d<c*b) (h2:c*f≤e*d) :a*f<e*b:=by
 have p1:=jjE h1 hf
 have p2:=jjn h2 (jj7 hb)
 have e1:a*d*f=a*f*d:=by rw [jkp,jj1 d f,←jkp]
 have e2:c*b*f=c*f*b:=by rw [jkp,jj1 b f,←jkp]
 have e3:e*d*b=e*b*d:=by rw [jkp,jj1 d b,←jkp]
 rw [e1,e2] at p1
 rw [e3] at p2
 exact jjV (Int.lt_of_lt_of_le p1 p2) (jj7 hd)
theorem KX {a b c d e f:Int} (hd:0<d) (hb:0<b) (hf:0<f) (h1:a*d≤c*b) (h2:c*f<e*d) :a*f<e*b:=by
 have p1:=jjn h1 (jj7 hf)
 have p2:=jjE h2 hb
 have e1:a*d*f=a*f*d:=by rw [jkp,jj1 d f,←jkp]
 have e2:c*b*f=c*f*b:=by rw [jkp,jj1 b f,←jkp]
 have e3:e*d*b=e*b*d:=by rw [jkp,jj1 d b,←jkp]
 rw [e1,e2] at p1
 rw [e3] at p2
 exact jjV (Int.lt_of_le_of_lt p1 p2) (jj7 hd)
theorem jdk {s x:Sp} (h1:0<s.ld) (h2:0<s.hd) (h3:0<x.ld) (h:vT (qV s x) =true) :vT s=true:=by
 unfold qV at h
 split at h
 case isFalse=>exact h
 case isTrue hu=>
  simp only [vT,Uz,jkb,jjl,decide_eq_true_eq,jj9] at*
  obtain ⟨sln,sld,slc,shn,shd,shc⟩ :=s
  obtain ⟨xln,xld,xlc,xhn,xhd,xhc⟩ :=x
  simp only at*
  rcases hu with hu |⟨hu,hx⟩
  ·left
   have:sln*shd<shn*sld:=by
    rcases h with h | h
    ·exact KX (d:=xld) (c:=xln) h3 h1 h2 Om Om
    ·exact wy (d:=xld) (c:=xln) h3 h1 h2 Om Om
   omega
  ·rcases h with h |⟨⟨h,h'⟩,_⟩
   ·left
    have:sln*shd<shn*sld:=KX (d:=xld) (c:=xln) h3 h1 h2 Om Om
    omega
   ·rw [hx] at h';cases h'
theorem jaE {s x:Sp} (h1:0<s.ld) (h2:0<s.hd) (h3:0<x.hd) (h:vT (kh s x) =true) :vT s=true:=by
 unfold kh at h
 split at h
 case isFalse=>exact h
 case isTrue hu=>
  simp only [vT,WE,jkb,jjl,decide_eq_true_eq,jj9] at*
  obtain ⟨sln,sld,slc,shn,shd,shc⟩ :=s
  obtain ⟨xln,xld,xlc,xhn,xhd,xhc⟩ :=x
  simp only at*
  rcases hu with hu |⟨hu,hx⟩
  ·left
   have:sln*shd<shn*sld:=by
    rcases h with h | h
    ·exact wy (d:=xhd) (c:=xhn) h3 h1 h2 Om Om
    ·exact KX (d:=xhd) (c:=xhn) h3 h1 h2 Om Om
   omega
  ·rcases h with h |⟨⟨h,_⟩,h'⟩
   ·left
    have:sln*shd<shn*sld:=wy (d:=xhd) (c:=xhn) h3 h1 h2 Om Om
    omega
   ·rw [hx] at h';cases h'
def QV (f d lo:Int) :Sp:=if 0<d then⟨lo- f,d,true,lo+2- f,d,false⟩ else if d<0 then⟨f- lo- 2,-d,false,f- lo,-d,true⟩ else uu
def KO (f d lo:Int) :Bool:= !decide (d=0) || (decide (lo≤f) &&decide (f<lo+2))
def wO (s:Sp) (f d lo:Int) :Sp:=if d=0 then s else J6 s (QV f d lo)
def Uu (s:Sp) (f d lo:Int) :Bool:=if d=0 then decide (lo≤f) &&decide (f<lo+2) else vT (J6 s (QV f d lo))
theorem Kf (f d lo:Int) :0< (QV f d lo).ld∧0< (QV f d lo).hd:=by
 unfold QV
 split
 ·exact⟨by assumption,by assumption⟩
 ·split
  ·exact⟨by simp;omega,by simp;omega⟩
  ·exact⟨by decide,by decide⟩
theorem Zp {s x:Sp} (h:0<s.ld∧0<s.hd) (hx:0<x.ld∧0<x.hd) :0< (qV s x).ld∧0< (qV s x).hd:=by
 unfold qV;split
 ·exact⟨hx.1,h.2⟩
 ·exact h
theorem K6 {s x:Sp} (h:0<s.ld∧0<s.hd) (hx:0<x.ld∧0<x.hd) :0< (J6 s x).ld∧0< (J6 s x).hd:=by
 have h':=Zp h hx
 unfold J6 kh;split
 ·exact⟨h'.1,hx.2⟩
 ·exact h'
theorem UL:0<uu.ld∧0<uu.hd:=⟨by decide,by decide⟩
theorem jaF {s x:Sp} (h:0<s.ld∧0<s.hd) (hx:0<x.ld∧0<x.hd) (hn:vT (J6 s x) =true) :vT s=true:=by
 have h':=Zp h hx
 exact jdk h.1 h.2 hx.1 (jaE h'.1 h'.2 hx.2 hn)
def F0 (s:Sp) :Prop:=0≤s.ln∧s.hn≤s.hd
theorem F1 {x:Sp} :F0 (J6 uu x) :=by
 unfold F0 J6 kh qV WE Uz uu
 constructor
 ·split<;>split<;>simp_all<;>omega
 ·split<;>split<;>simp_all<;>omega
theorem Tr {s:Sp} (h:F0 s) :J6 s uu=s:=by
 obtain ⟨h1,h2⟩ :=h
 have e1:Uz s uu=false:=by simp [Uz,uu];omega
 have e2:WE s uu=false:=by simp [WE,uu];omega
 have e3:qV s uu=s:=by rw [qV,e1];rfl
 rw [J6,e3,kh,e2];rfl
theorem BH:F0 uu:=⟨by decide,by decide⟩
def XZ (f d lo f' d' lo':Int) :Bool:=KO f d lo&&KO f' d' lo'&&vT (J6 (J6 uu (QV f d lo)) (QV f' d' lo'))
theorem wG (f lo:Int) :QV f 0 lo=uu:=by simp [QV]
theorem Ok {s:Sp} (h:F0 s) (f d lo:Int) :wO s f d lo=J6 s (QV f d lo) :=by
 unfold wO
 split
 ·rename_i h0;subst h0;rw [wG,Tr h]
 ·rfl
theorem Sf {s:Sp} (h:F0 s) (hn:vT s=true) (f d lo:Int) :Uu s f d lo= (KO f d lo&&vT (J6 s (QV f d lo))) :=by
 unfold Uu KO
 split
 ·rename_i h0;subst h0;rw [wG,Tr h,hn];simp
 ·rename_i h0;simp [h0]
theorem Si (f d lo f' d' lo':Int) :XZ f d lo f' d' lo'= (Uu uu f d lo&&Uu (wO uu f d lo) f' d' lo') :=by
 have hn0:vT uu=true:=by decide
 rw [Ok BH,Sf BH hn0,XZ]
 cases h1:KO f d lo
 ·simp
 ·cases h2:vT (J6 uu (QV f d lo))
  ·have:vT (J6 (J6 uu (QV f d lo)) (QV f' d' lo')) =false:=by
    cases h3:vT (J6 (J6 uu (QV f d lo)) (QV f' d' lo'))
    ·rfl
    ·have:=jaF (K6 UL (Kf _ _ _)) (Kf _ _ _) h3
     rw [h2] at this;cases this
   simp [this]
  ·rw [Sf F1 h2]
   simp
abbrev bdV (n d:Int) (c:Bool) :Value:= .agg #[.int .i64 n, .int .i64 d, .bool c]
def bd1 (n d:Int) :Prop:= (-2097152≤n∧n≤2097152)∧-2097152≤d∧d≤2097152
theorem ww (n d n' d':Int) (c c':Bool) (w:World) (h:bd1 n d) (h':bd1 n' d') :
  Calls Tryz.prog 175 #[bdV n d c,bdV n' d' c'] w fun e w'=>e= .returned (.int .i64 (wR (n*d'- n'*d)))∧Over w w':=by
 obtain ⟨⟨a1,a2⟩,a3,a4⟩ :=h
 obtain ⟨⟨b1,b2⟩,b3,b4⟩ :=h'
 obtain ⟨m1,m1'⟩ :=QP a1 a2 b3 b4
 obtain ⟨m2,m2'⟩ :=QP b1 b2 a3 a4
 refine j6 (m:=17) (Tryz.func175) J J (lb J) ?_;refine S3 ?_;refine aX (fun b1=> ?_);refine N1 ?_;refine aX (fun b2=> ?_);refine N15 ?_;refine a9 (jM Q4 J J (fun w h=> (KC _ w).mono fun e w' ⟨he,hw⟩ =>⟨he,hw▸Over.refl _⟩)) ?_;refine S3 ?_;refine jK J (.tmp J) ?_
 intro w' hs
 exact⟨rfl,hs.fin⟩
def jbf (s:Sp) :List Value:= [.int .i64 s.ln, .int .i64 s.ld, .bool s.lc, .int .i64 s.hn, .int .i64 s.hd, .bool s.hc]
structure bdP (s:Sp) :Prop where
 low:bd1 s.ln s.ld
 high:bd1 s.hn s.hd
theorem Z4 (f d lo:Int) (f1: -524288≤f) (f2:f≤524288) (d1: -1048576≤d) (d2:d≤1048576) (l1: -524289≤lo) (l2:lo≤524289) :bdP (QV f d lo) :=by
 unfold QV
 split
 ·exact⟨⟨⟨by simp;omega,by simp;omega⟩,by simp;omega,by simp;omega⟩,⟨by simp;omega,by simp;omega⟩,by simp;omega,by simp;omega⟩
 ·split
  ·exact⟨⟨⟨by simp;omega,by simp;omega⟩,by simp;omega,by simp;omega⟩,⟨by simp;omega,by simp;omega⟩,by simp;omega,by simp;omega⟩
  ·exact⟨⟨⟨by decide,by decide⟩,by decide,by decide⟩,⟨by decide,by decide⟩,by decide,by decide⟩
theorem Wz {s x:Sp} (hs:bdP s) (hx:bdP x) :bdP (qV s x) :=by
 unfold qV;split
 ·exact⟨hx.low,hs.high⟩
 ·exact hs
theorem WN {s x:Sp} (hs:bdP s) (hx:bdP x) :bdP (kh s x) :=by
 unfold kh;split
 ·exact⟨hs.low,hx.high⟩
 ·exact hs
theorem Ez {n:Int} : (wR n<0)↔n<0:=by unfold wR;split<;> (try split) <;>omega
theorem vZ (n:Int) : (n<0∧wR n= -1)∨(n=0∧wR n=0)∨(0<n∧wR n=1) :=by unfold wR;split<;> (try split) <;>omega
theorem Sh (b:Nat) (s:Sp) (f d lo:Int) (w:World) (hs:bdP s) (f1: -524288≤f) (f2:f≤524288) (d1: -1048576≤d) (d2:d≤1048576) (l1: -524289≤lo) (l2:lo≤524289)
  (hh:w.heap[b]? =some (.cells (jbf s).toArray 206 (0,0))) :
  Calls Tryz.prog 228 #[.pointer (some ⟨b,0,none⟩), .int .i64 f, .int .i64 d, .int .i64 lo] w fun e w'=>e= .returned (.bool (Uu s f d lo))∧Wr b w w'∧w'.heap[b]? =some (.cells (jbf (wO s f d lo)).toArray 206 (0,0)) :=by
 have hx:=Z4 f d lo f1 f2 d1 d2 l1 l2
 obtain ⟨x,ex⟩ :∃x,QV f d lo=x:=⟨_,rfl⟩
 rw [ex] at hx
 have hs1:=Wz hs hx
 have hs2:=WN hs1 hx
 obtain ⟨x1,x2⟩ :=hx
 obtain ⟨y1,y2⟩ :=hs
 obtain ⟨z1,z2⟩ :=hs1
 obtain ⟨u1,u2⟩ :=hs2
 refine QX (m:=122) (Tryz.func228) J J (lb J) (hh) ?_;refine S10 ?_;refine cZ (fun c1=> ?_) (fun c1=> ?_)
 ·refine S6 ?_;refine cV 19 (fun g1=> ?_) (fun g1=> ?_)
  ·refine S13 ?_;refine jK J (.tmp J) ?_
   intro w' hs
   exact⟨by subst c1;simp [Uu,g1],hs.over.wr,by subst c1;simpa [wO] using hs.cel (k:=0) rfl⟩
  ·refine S9 ?_;refine jK J (.tmp J) ?_
   intro w' hs
   exact⟨by subst c1;simp [Uu];omega,hs.over.wr,by subst c1;simpa [wO] using hs.cel (k:=0) rfl⟩
 ·refine S8 ?_;refine a9 (JR J J (kb J J J)) ?_;refine S5 ?_;refine a9 (JR J J (kb J J J)) ?_;refine S1 ?_;refine aL (fun b1=> ?_);refine N1 ?_;refine aL (fun b2=> ?_);refine N5 ?_;refine uB [] ([.cel b 206 (jbf s), .cel b1 204 [.int .i64 x.ln, .int .i64 x.ld, .bool x.lc], .cel b2 204 [.int .i64 x.hn, .int .i64 x.hd, .bool x.hc]]) (kK [0,8,9,10]) (fun L h_t37=> ?_) ?_
  ·refine S5 ?_;refine cZ (fun c2=> ?_) (fun c2=> ?_)
   ·refine S6 ?_;refine a9 (yK J J Om Om) ?_;refine a9 (JR J J (kb J J J)) ?_;refine S4 ?_;refine a9 (yK J J Om Om) ?_;refine a9 (JR J J (kb J J J)) ?_;refine S5 ?_
    exact Jo h_t37 ⟨J,sz⟩ (fun _ h=>h.upto ⟨J,by rw [←ex,QV,if_neg Om,if_pos c2] <;>rfl,by rw [←ex,QV,if_neg Om,if_pos c2] <;>rfl,trivial⟩)
   ·refine S2 ?_
    exact Jo h_t37 ⟨J,sz⟩ (fun _ h=>h.upto ⟨J,by rw [←ex,QV,if_pos Om] <;>rfl,by rw [←ex,QV,if_pos Om] <;>rfl,trivial⟩)
  ·refine v9 ?_;refine uB [] ([.cel b 206 (jbf (qV s x)), .cel b1 204 [.int .i64 x.ln, .int .i64 x.ld, .bool x.lc], .cel b2 204 [.int .i64 x.hn, .int .i64 x.hd, .bool x.hc]]) (kK [0,8,10]) (fun L h_t67=> ?_) ?_
   ·refine S2 ?_;refine JS 7 ?_;refine dK 0 ?_;refine dK 1 ?_;refine dK 2 ?_;refine dK 3 ?_;refine dK 4 ?_;refine dZ 5 J (jM vr J J (fun w h=>ww _ _ _ _ _ _ w (by assumption) (by assumption))) ?_;refine dK 6 ?_;refine JJ Kr ?_;refine S1 ?_;refine qt [(67, .bool (Uz s x))] (kK [0,8,9,10]) (fun L h_7=> ?_) ?_
    ·refine S4 ?_;refine cV 59 (fun g2=> ?_) (fun g2=> ?_)
     ·refine S9 ?_
      exact Jo h_7 ⟨vb (by have k:=vZ (x.ln*s.ld- s.ln*x.ld);symm;simp [Uz];omega),sz⟩ (u9 rfl)
     ·refine S6 ?_;refine cV 62 (fun g3=> ?_) (fun g3=> ?_)
      ·refine S10 ?_
       exact Jo h_7 ⟨vb (by have k:=vZ (x.ln*s.ld- s.ln*x.ld);have e:s.ln*x.ld- x.ln*s.ld=0:=Om;simp [Uz,e]),sz⟩ (u9 rfl)
      ·refine S7 ?_
       exact Jo h_7 ⟨vb (by have k:=vZ (x.ln*s.ld- s.ln*x.ld);symm;simp [Uz];omega),sz⟩ (u9 rfl)
    ·refine v9 ?_;refine cZ (fun c3=> ?_) (fun c3=> ?_)
     ·refine S6 ?_;refine Bd (k:=0) J J J J (J) (by rfl) Kj.szx J ?_;refine N1 ?_
      exact Jo h_t67 ⟨J,sz⟩ (fun _ h=>h.upto ⟨by rw [qV,if_pos c3] <;>rfl,sz⟩)
     ·refine S2 ?_
      exact Jo h_t67 ⟨J,sz⟩ (fun _ h=>h.upto ⟨by rw [qV,c3] <;>rfl,sz⟩)
   ·refine v9 ?_;refine uB [] ([.cel b 206 (jbf (J6 s x)), .cel b1 204 [.int .i64 x.ln, .int .i64 x.ld, .bool x.lc], .cel b2 204 [.int .i64 x.hn, .int .i64 x.hd, .bool x.hc]]) (kK [0,8]) (fun L h_t88=> ?_) ?_
    ·refine S2 ?_;refine JS 7 ?_;refine dK 0 ?_;refine dK 1 ?_;refine dK 2 ?_;refine dK 3 ?_;refine dK 4 ?_;refine dZ 5 J (jM vr J J (fun w h=>ww _ _ _ _ _ _ w (by assumption) (by assumption))) ?_;refine dK 6 ?_;refine JJ Kr ?_;refine S1 ?_;refine qt [(88, .bool (WE (qV s x) x))] (kK [0,8,10]) (fun L h_10=> ?_) ?_
     ·refine S4 ?_;refine cV 80 (fun g4=> ?_) (fun g4=> ?_)
      ·refine S9 ?_
       exact Jo h_10 ⟨vb (by have k:=vZ (x.hn* (qV s x).hd- (qV s x).hn*x.hd);symm;simp [WE];omega),sz⟩ (u9 rfl)
      ·refine S6 ?_;refine cV 83 (fun g5=> ?_) (fun g5=> ?_)
       ·refine S10 ?_
        exact Jo h_10 ⟨vb (by have k:=vZ (x.hn* (qV s x).hd- (qV s x).hn*x.hd);have e: (qV s x).hn*x.hd- x.hn* (qV s x).hd=0:=Om;simp [WE,e]),sz⟩ (u9 rfl)
       ·refine S7 ?_
        exact Jo h_10 ⟨vb (by have k:=vZ (x.hn* (qV s x).hd- (qV s x).hn*x.hd);symm;simp [WE];omega),sz⟩ (u9 rfl)
     ·refine v9 ?_;refine cZ (fun c4=> ?_) (fun c4=> ?_)
      ·refine S6 ?_;refine Bh (k:=0) J J J J (J) (by rfl) Kj.szx J ?_;refine N1 ?_
       exact Jo h_t88 ⟨J,sz⟩ (fun _ h=>h.upto ⟨by rw [J6,kh,if_pos c4] <;>rfl,sz⟩)
      ·refine S2 ?_
       exact Jo h_t88 ⟨J,sz⟩ (fun _ h=>h.upto ⟨by rw [J6,kh,c4] <;>rfl,sz⟩)
    ·refine V2 ?_;refine JS 10 ?_;refine dK 0 ?_;refine dK 1 ?_;refine dK 2 ?_;refine dK 3 ?_;refine dK 4 ?_;refine dK 5 ?_;refine dK 6 ?_;refine dK 7 ?_;refine dZ 8 J (jM vr J J (fun w h=>ww _ _ _ _ _ _ w (by assumption) (by assumption))) ?_;refine dK 9 ?_;refine JJ Kr ?_;refine S6 ?_;refine cV 104 (fun g6=> ?_) (fun g6=> ?_)
     ·refine S20 ?_;refine jK J (.tmp J) ?_
      intro w' hs
      have k:=vZ ((J6 s x).ln* (J6 s x).hd- (J6 s x).hn* (J6 s x).ld)
      exact⟨QF (by rw [Uu,if_neg c1,ex];symm;simp [vT];omega),hs.over.wr,by rw [wO,if_neg c1,ex];exact hs.cel (k:=0) rfl⟩
     ·refine S6 ?_;refine cV 107 (fun g7=> ?_) (fun g7=> ?_)
      ·refine S14 ?_;refine cV 114 (fun g8=> ?_) (fun g8=> ?_)
       ·refine S16 ?_;refine jK J (.tmp J) ?_
        intro w' hs
        have k:=vZ ((J6 s x).ln* (J6 s x).hd- (J6 s x).hn* (J6 s x).ld)
        have e: (J6 s x).ln* (J6 s x).hd- (J6 s x).hn* (J6 s x).ld=0:=Om
        exact⟨QF (by rw [Uu,if_neg c1,ex];simp [vT,e, *]),hs.over.wr,by rw [wO,if_neg c1,ex];exact hs.cel (k:=0) rfl⟩
       ·refine S11 ?_;refine jK J (.tmp J) ?_
        intro w' hs
        have k:=vZ ((J6 s x).ln* (J6 s x).hd- (J6 s x).hn* (J6 s x).ld)
        have e: (J6 s x).ln* (J6 s x).hd- (J6 s x).hn* (J6 s x).ld=0:=Om
        exact⟨QF (by rw [Uu,if_neg c1,ex];simp [vT,e, *]),hs.over.wr,by rw [wO,if_neg c1,ex];exact hs.cel (k:=0) rfl⟩
      ·refine S20 ?_;refine jK J (.tmp J) ?_
       intro w' hs
       have k:=vZ ((J6 s x).ln* (J6 s x).hd- (J6 s x).hn* (J6 s x).ld)
       exact⟨QF (by rw [Uu,if_neg c1,ex];symm;simp [vT];omega),hs.over.wr,by rw [wO,if_neg c1,ex];exact hs.cel (k:=0) rfl⟩
abbrev jgS (s:Sp) :Value:= .agg #[.int .i64 s.ln, .int .i64 s.ld, .bool s.lc, .int .i64 s.hn, .int .i64 s.hd, .bool s.hc]
theorem BG:bdP uu:=⟨⟨by decide,by decide⟩,by decide,by decide⟩
theorem jb5 {s:Sp} {f d lo:Int} (hs:bdP s) (hx:bdP (QV f d lo)) :bdP (wO s f d lo) :=by
 unfold wO;split
 ·exact hs
 ·exact WN (Wz hs hx) hx
theorem DK (ax ay bx b_y px_ py_:Int) (w:World) (ha:wW ax ay=true) (hb:wW bx b_y=true) (hp:wW px_ py_=true) :
  Calls Tryz.prog 172 #[Uh ax ay,Uh bx b_y,Uh px_ py_] w fun e w'=>e= .returned (.tuple #[jgS (if Uu uu (2*ax) (2* (bx- ax)) (2*px_- 1) =true then wO (wO uu (2*ax) (2* (bx- ax)) (2*px_- 1)) (2*ay) (2* (b_y- ay)) (2*py_- 1) else wO uu (2*ax) (2* (bx- ax)) (2*px_- 1)),
   .bool (Uu uu (2*ax) (2* (bx- ax)) (2*px_- 1) &&Uu (wO uu (2*ax) (2* (bx- ax)) (2*px_- 1)) (2*ay) (2* (b_y- ay)) (2*py_- 1))])∧Over w w':=by
 simp [wW,ZX] at ha hb hp
 have hs1:=jb5 (f:=2*ax) (d:=2* (bx- ax)) (lo:=2*px_- 1) BG (Z4 _ _ _ Om Om Om Om Om Om)
 refine j6 (m:=45) (Tryz.func172) J J (lb J) ?_;refine S3 ?_;refine aX (fun b1=> ?_);refine N1 ?_;refine aX (fun b2=> ?_);refine N1 ?_;refine aX (fun b3=> ?_);refine N1 ?_;refine aL (fun b4=> ?_);refine N4 ?_;refine a9 (JR J J (kb J J J)) ?_;refine a9 (JR J J (kb J J J)) ?_;refine a9 (JR J J (YG J J)) ?_;refine S1 ?_;refine aL (fun b5=> ?_);refine N4 ?_;refine jib (Rs':= [.cel b1 28 [.int .i64 ax, .int .i64 ay], .cel b2 28 [.int .i64 bx, .int .i64 b_y], .cel b3 28 [.int .i64 px_, .int .i64 py_], .cel b4 206 [.int .i64 0, .int .i64 0, .bool false, .int .i64 0, .int .i64 0, .bool false], .cel b5 206 (jbf uu)]) (fun _ h=>h) ?_;refine S15 ?_;refine QH (k:=4) Wc J J J Dc J (fun w h=>Sh b5 uu (2*ax) (2* (bx- ax)) (2*px_- 1) w BG Om Om Om Om Om Om (h.cel (k:=4) J)) ?_;refine N1 ?_;refine cV 27 (fun g1=> ?_) (fun g1=> ?_)
 ·refine S27 ?_;refine QH (k:=4) Wc J J J Dc J (fun w h=>Sh b5 (wO uu (2*ax) (2* (bx- ax)) (2*px_- 1)) (2*ay) (2* (b_y- ay)) (2*py_- 1) w hs1 Om Om Om Om Om Om (h.cel (k:=4) J)) ?_;refine N12 ?_;refine qh J (J8 (k:=3) J Vx J J) (.tmp J) ?_
  intro w' hs
  exact⟨by rw [if_pos g1,g1,jjG];rfl,hs.fin⟩
 ·refine S26 ?_;refine qh J (J8 (k:=3) J Vx J J) (.tmp J) ?_
  intro w' hs
  exact⟨by rw [if_neg (by rw [g1];simp),g1,jjU];rfl,hs.fin⟩
abbrev spV (s:Sp) :Value:= .agg #[.int .i64 s.ln, .int .i64 s.ld, .int .i64 s.hn, .int .i64 s.hd, .bool s.lc, .bool s.hc]
def spC (s:Sp) :List Value:= [.int .i64 s.ln, .int .i64 s.ld, .int .i64 s.hn, .int .i64 s.hd, .bool s.lc, .bool s.hc]
theorem Ly (f d lo hi:Int) (w:World) (hh:hi=lo+2) (f1: -1048576≤f) (f2:f≤1048576) (d1: -1048576≤d) (d2:d≤1048576) (l1: -1048576≤lo) (l2:lo≤1048576) :
  Calls Tryz.prog 272 #[.int .i64 f, .int .i64 d, .int .i64 lo, .int .i64 hi] w fun e w'=>e= .returned (.tuple #[spV (QV f d lo), .bool (KO f d lo)])∧Over w w':=by
 subst hh
 have tv:∀ {s s':Sp} {a a':Bool},s'=s→a'=a→Ending.returned (.tuple #[spV s, .bool a]) =Ending.returned (.tuple #[spV s', .bool a']) :=fun h1 h2=>by rw [h1,h2]
 refine j6 (m:=45) (Tryz.func272) J J (lb J) ?_;refine S3 ?_;refine aL (fun b1=> ?_);refine N10 ?_;refine cZ (fun c1=> ?_) (fun c1=> ?_)
 ·refine S10 ?_;refine a9 (JR J J (UW J J J J J)) ?_;refine S7 ?_;refine qh J (J8 (k:=0) J qp J J) (.tmp J) ?_
  intro w' hs
  exact⟨tv (s:=⟨lo- f,d,true,lo+2- f,d,false⟩) (by rw [QV,if_pos c1]) (by simp [KO];omega),hs.fin⟩
 ·refine S6 ?_;refine cZ (fun c2=> ?_) (fun c2=> ?_)
  ·refine S6 ?_;refine a9 (yK J J Om Om) ?_;refine S4 ?_;refine a9 (yK J J Om Om) ?_;refine a9 (JR J J (UX J J J J J)) ?_;refine S7 ?_;refine qh J (J8 (k:=0) J qp J J) (.tmp J) ?_
   intro w' hs
   exact⟨tv (s:=⟨f- (lo+2),-d,false,f- lo,-d,true⟩) (by rw [QV,if_neg Om,if_pos c2];congr 1;omega) (by simp [KO];omega),hs.fin⟩
  ·refine S5 ?_;refine a9 (JR J J (VC J J J J J J)) ?_;refine S4 ?_;refine cV 40 (fun g1=> ?_) (fun g1=> ?_)
   ·refine S12 ?_;refine qh J (J8 (k:=0) J qp J J) (.tmp J) ?_
    intro w' hs
    exact⟨tv (s:=uu) (by rw [QV,if_neg Om,if_neg Om]) (by simp [KO,show d=0 by omega,g1]),hs.fin⟩
   ·refine S9 ?_;refine qh J (J8 (k:=0) J qp J J) (.tmp J) ?_
    intro w' hs
    exact⟨tv (s:=uu) (by rw [QV,if_neg Om,if_neg Om]) (by simp [KO,show d=0 by omega];omega),hs.fin⟩
theorem F8 {a b c d:Int} (h:bd1 a b) (k:bd1 c d) : (-4398046511104≤a*d∧a*d≤4398046511104)∧(-4398046511104≤c*b∧c*b≤4398046511104) :=by
 obtain ⟨⟨a1,a2⟩,a3,a4⟩ :=h
 obtain ⟨⟨b1,b2⟩,b3,b4⟩ :=k
 exact⟨QP a1 a2 b3 b4,QP b1 b2 a3 a4⟩
theorem Lz (s x:Sp) (w:World) (hs:bdP s) (hx:bdP x) :
  Calls Tryz.prog 273 #[spV s,spV x] w fun e w'=>e= .returned (spV (J6 s x))∧Over w w':=by
 have hs1:=Wz hs hx
 obtain ⟨m1,m2⟩ :=F8 hs.low hx.low
 obtain ⟨m3,m4⟩ :=F8 hs1.high hx.high
 refine j6 (m:=70) (Tryz.func273) J J (lb J) ?_;refine S3 ?_;refine aX (fun b1=> ?_);refine N1 ?_;refine aX (fun b2=> ?_);refine N1 ?_;refine aL (fun b3=> ?_);refine N16 ?_;refine uB [] ([.cel b1 273 (spC (qV s x)), .cel b2 273 (spC x), .cel b3 273 [.int .i64 0, .int .i64 0, .int .i64 0, .int .i64 0, .bool false, .bool false]]) (kK [2,3,4]) (fun L h_t28=> ?_) ?_
 ·refine qt [(28, .bool (Uz s x))] (kK [2,3,4]) (fun L h_2=> ?_) ?_
  ·refine S4 ?_;refine cV 20 (fun g1=> ?_) (fun g1=> ?_)
   ·refine S9 ?_
    exact Jo h_2 ⟨vb (by symm;simp [Uz];omega),sz⟩ (u9 J)
   ·refine S6 ?_;refine cV 23 (fun g2=> ?_) (fun g2=> ?_)
    ·refine S10 ?_
     exact Jo h_2 ⟨vb (by simp [Uz,g2]),sz⟩ (u9 J)
    ·refine S7 ?_
     exact Jo h_2 ⟨vb (by symm;simp [Uz];omega),sz⟩ (u9 J)
  ·refine v9 ?_;refine cZ (fun c1=> ?_) (fun c1=> ?_)
   ·refine S6 ?_;refine Bc (k:=0) J J J J (J) (by rfl) kY.szx J ?_;refine N7 ?_;refine Be (k:=0) J J J J (J) (by rfl) kY.szx J ?_;refine N6 ?_;refine Bi (k:=0) J J J J (J) (by rfl) Yw.szx J ?_;refine N1 ?_
    exact Jo h_t28 ⟨J,sz⟩ (fun _ h=>h.upto ⟨by rw [qV,if_pos c1] <;>rfl,sz⟩)
   ·refine S2 ?_
    exact Jo h_t28 ⟨J,sz⟩ (fun _ h=>h.upto ⟨by rw [qV,c1] <;>rfl,sz⟩)
 ·refine V15 ?_;refine uB [] ([.cel b1 273 (spC (J6 s x)), .cel b2 273 (spC x), .cel b3 273 [.int .i64 0, .int .i64 0, .int .i64 0, .int .i64 0, .bool false, .bool false]]) (kK [2,4]) (fun L h_t59=> ?_) ?_
  ·refine qt [(59, .bool (WE (qV s x) x))] (kK [2,3,4]) (fun L h_7=> ?_) ?_
   ·refine S4 ?_;refine cV 51 (fun g3=> ?_) (fun g3=> ?_)
    ·refine S9 ?_
     exact Jo h_7 ⟨vb (by symm;simp [WE];omega),sz⟩ (u9 J)
    ·refine S6 ?_;refine cV 54 (fun g4=> ?_) (fun g4=> ?_)
     ·refine S10 ?_
      exact Jo h_7 ⟨vb (by simp [WE,g4]),sz⟩ (u9 J)
     ·refine S7 ?_
      exact Jo h_7 ⟨vb (by symm;simp [WE];omega),sz⟩ (u9 J)
   ·refine v9 ?_;refine cZ (fun c2=> ?_) (fun c2=> ?_)
    ·refine S6 ?_;refine Bf (k:=0) J J J J (J) (by rfl) kY.szx J ?_;refine N7 ?_;refine Bg (k:=0) J J J J (J) (by rfl) kY.szx J ?_;refine N6 ?_;refine Bj (k:=0) J J J J (J) (by rfl) Yw.szx J ?_;refine N1 ?_
     exact Jo h_t59 ⟨J,sz⟩ (fun _ h=>h.upto ⟨by rw [J6,kh,if_pos c2] <;>rfl,sz⟩)
    ·refine S2 ?_
     exact Jo h_t59 ⟨J,sz⟩ (fun _ h=>h.upto ⟨by rw [J6,kh,c2] <;>rfl,sz⟩)
  ·refine V7 ?_;refine jK J (J8 (k:=2) J qp J J) ?_
   intro w' hs
   exact⟨rfl,hs.fin⟩
theorem Du (ax ay bx b_y px_ py_:Int) (w:World) (ha:wW ax ay=true) (hb:wW bx b_y=true) (hp:wW px_ py_=true) :
  Calls Tryz.prog 249 #[Uh ax ay,Uh bx b_y,Uh px_ py_] w fun e w'=>e= .returned (.tuple #[spV (if(KO (2*ax) (2* (bx- ax)) (2*px_- 1) &&KO (2*ay) (2* (b_y- ay)) (2*py_- 1)) =true then J6 (J6 uu (QV (2*ax) (2* (bx- ax)) (2*px_- 1))) (QV (2*ay) (2* (b_y- ay)) (2*py_- 1)) else uu),
   .bool (XZ (2*ax) (2* (bx- ax)) (2*px_- 1) (2*ay) (2* (b_y- ay)) (2*py_- 1))])∧Over w w':=by
 simp [wW,ZX] at ha hb hp
 have hx:=Z4 (2*ax) (2* (bx- ax)) (2*px_- 1) Om Om Om Om Om Om
 have hy:=Z4 (2*ay) (2* (b_y- ay)) (2*py_- 1) Om Om Om Om Om Om
 have h1:=WN (Wz BG hx) hx
 obtain ⟨sx,ex⟩ :∃s,QV (2*ax) (2* (bx- ax)) (2*px_- 1) =s:=⟨_,rfl⟩
 obtain ⟨sy,ey⟩ :∃s,QV (2*ay) (2* (b_y- ay)) (2*py_- 1) =s:=⟨_,rfl⟩
 obtain ⟨ix,jx⟩ :∃s,KO (2*ax) (2* (bx- ax)) (2*px_- 1) =s:=⟨_,rfl⟩
 obtain ⟨iy,jy⟩ :∃s,KO (2*ay) (2* (b_y- ay)) (2*py_- 1) =s:=⟨_,rfl⟩
 unfold XZ
 rw [ex] at hx h1
 rw [ey] at hy
 rw [ex,ey,jx,jy]
 change bdP (J6 uu sx) at h1
 obtain ⟨s2,e2⟩ :∃s,J6 (J6 uu sx) sy=s:=⟨_,rfl⟩
 rw [e2]
 have h2:bdP (J6 (J6 uu sx) sy) :=WN (Wz h1 hy) hy
 rw [e2] at h2
 obtain ⟨m1,m2⟩ :=F8 h2.low h2.high
 have hA:∀w,Calls Tryz.prog 272 #[.int .i64 (2*ax), .int .i64 (2* (bx- ax)), .int .i64 (2*px_- 1), .int .i64 (2*px_+1)] w fun e w'=>e= .returned (.tuple #[spV sx, .bool ix])∧Over w w':=fun w=>ex▸jx▸Ly _ _ _ _ w Om Om Om Om Om Om Om
 have hB:∀w,Calls Tryz.prog 272 #[.int .i64 (2*ay), .int .i64 (2* (b_y- ay)), .int .i64 (2*py_- 1), .int .i64 (2*py_+1)] w fun e w'=>e= .returned (.tuple #[spV sy, .bool iy])∧Over w w':=fun w=>ey▸jy▸Ly _ _ _ _ w Om Om Om Om Om Om Om
 have hC:∀w,Calls Tryz.prog 273 #[spV (J6 uu sx),spV sy] w fun e w'=>e= .returned (spV s2)∧Over w w':=fun w=>e2▸Lz _ _ w h1 hy
 refine j6 (m:=95) (Tryz.func249) J J (lb J) ?_;refine S3 ?_;refine aX (fun b1=> ?_);refine N1 ?_;refine aX (fun b2=> ?_);refine N1 ?_;refine aX (fun b3=> ?_);refine N1 ?_;refine aL (fun b4=> ?_);refine N4 ?_;refine a9 (JR J J (VC J J J J J J)) ?_;refine S1 ?_;refine aL (fun b5=> ?_);refine N22 ?_;refine a9 (jM zw J J (fun w h=>hA w)) ?_;refine S4 ?_;refine aL (fun b6=> ?_);refine N23 ?_;refine a9 (jM zw J J (fun w h=>hB w)) ?_;refine S4 ?_;refine aL (fun b7=> ?_);refine N5 ?_;refine qt [(62, .bool (!(ix&&iy)))] (kK [6,7,8,9,11]) (fun L h_4=> ?_) ?_
 ·refine S4 ?_;refine cV 59 (fun g1=> ?_) (fun g1=> ?_)
  ·refine S4 ?_
   exact Jo h_4 ⟨vb (by simp [g1]),sz⟩ (u9 J)
  ·refine S6 ?_
   exact Jo h_4 ⟨vb (by simp [g1]),sz⟩ (u9 J)
 ·refine v9 ?_;refine cZ (fun c1=> ?_) (fun c1=> ?_)
  ·refine S9 ?_;refine qh J (J8 (k:=3) J qp J J) (.tmp J) ?_
   intro w' hs
   have q: ((ix&&iy) =true) =False:= (by simp at c1;simp;exact c1)
   exact⟨by simp only [q,if_false];simp at c1;cases ix<;>simp_all [uu],hs.fin⟩
  ·have q: (ix&&iy) =true:= (by simpa using c1)
   refine S4 ?_;refine JS 5 ?_;refine dK 0 ?_;refine dK 1 ?_;refine dZ 2 J (jM zx J J (fun w h=>Lz uu sx w BG hx)) ?_;refine dK 3 ?_;refine dZ 4 J (jM zx J J (fun w h=>hC w)) ?_;refine KV J Kr J ?_;refine S1 ?_;refine yB Kr ?_;refine S18 ?_;refine Qv 17 [3] ?_;refine dK 0 ?_;refine dK 1 ?_;refine dK 2 ?_;refine dK 3 ?_;refine cV 83 (fun g2=> ?_) (fun g2=> ?_)
   ·refine fK 4 ?_;refine fK 5 ?_;refine fK 6 ?_;refine ME (i:=7) J Kr Kr Kr [] Kr (fun _ _ _ h=>h) J J J J J Dc (uw [3] J) ?_;refine ME (i:=8) J Kr Kr Kr [] Kr (fun _ _ _ h=>h) J J J J J Dc (uw [3] J) ?_;refine fK 9 ?_;refine fK 10 ?_;refine ME (i:=11) J Kr Kr Kr [] Kr (fun _ _ _ h=>h) J J J J J Dc (uw [3] J) ?_;refine ME (i:=12) J Kr Kr Kr [] Kr (fun _ _ _ h=>h) J J J J J Dc (uw [3] J) ?_;refine fK 13 ?_;refine dK 14 ?_;refine J7 (i:=15) J Dc Kr J ?_;refine S1 ?_;refine JN (uw [3] J) ?_;refine dK 16 ?_;refine JJ Kr ?_;refine S2 ?_;refine qh J (J8 (k:=3) J qp J J) (.tmp J) ?_
    intro w' hs
    exact⟨by rw [if_pos q,q,jjG,show vT s2=true from(by simp [vT];omega)],hs.fin⟩
   ·refine eK 4 ?_;refine eK 5 ?_;refine eK 6 ?_;refine cV 86 (fun g3=> ?_) (fun g3=> ?_)
    ·refine eK 7 ?_;refine eK 8 ?_;refine eK 9 ?_;refine eK 10 ?_;refine cV 90 (fun g4=> ?_) (fun g4=> ?_)
     ·refine eK 11 ?_;refine eK 12 ?_;refine eK 13 ?_;refine dK 14 ?_;refine J7 (i:=15) J Dc Kr J ?_;refine S1 ?_;refine JN (uw [3] J) ?_;refine dK 16 ?_;refine JJ Kr ?_;refine S2 ?_;refine qh J (J8 (k:=3) J qp J J) (.tmp J) ?_
      intro w' hs
      exact⟨by rw [if_pos q,q,jjG,show vT s2=s2.hc from(by simp [vT, *])],hs.fin⟩
     ·refine fK 11 ?_;refine fK 12 ?_;refine eK 13 ?_;refine dK 14 ?_;refine J7 (i:=15) J Dc Kr J ?_;refine S1 ?_;refine JN (uw [3] J) ?_;refine dK 16 ?_;refine JJ Kr ?_;refine S2 ?_;refine qh J (J8 (k:=3) J qp J J) (.tmp J) ?_
      intro w' hs
      exact⟨by rw [if_pos q,q,jjG,show vT s2=false from(by simp [vT, *])],hs.fin⟩
    ·refine fK 7 ?_;refine fK 8 ?_;refine eK 9 ?_;refine eK 10 ?_;refine fK 11 ?_;refine fK 12 ?_;refine eK 13 ?_;refine dK 14 ?_;refine J7 (i:=15) J Dc Kr J ?_;refine S1 ?_;refine JN (uw [3] J) ?_;refine dK 16 ?_;refine JJ Kr ?_;refine S2 ?_;refine qh J (J8 (k:=3) J qp J J) (.tmp J) ?_
     intro w' hs
     exact⟨by rw [if_pos q,q,jjG,show vT s2=false from(by simp [vT];omega)],hs.fin⟩
end Go.Proofs.YtbahojdbmmjkcaaGreat
