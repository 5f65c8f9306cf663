import Derived.Test.YtbahojdbmmjkcaaGreatSMem
import Derived.Test.YtbahojdbmmjkcaaGreatSL2
set_option linter.unusedVariables false
set_option linter.unusedSimpArgs false
namespace Go.Proofs.YtbahojdbmmjkcaaGreat
open Go Go.RowKit
set_option maxRecDepth 100000
set_option maxHeartbeats 4000000
structure Sp where
 ln:Int
 ld:Int
 lc:Bool
 hn:Int
 hd:Int
 hc:Bool
def WG:Sp:=⟨0,1,true,1,1,true⟩
def vp (s:Sp) :Bool:=decide (s.ln*s.hd- s.hn*s.ld<0) || (decide (s.ln*s.hd- s.hn*s.ld=0) &&s.lc&&s.hc)
def uM (s x:Sp) :Bool:=decide (s.ln*x.ld- x.ln*s.ld<0) || (decide (s.ln*x.ld- x.ln*s.ld=0) && !x.lc)
def wH (s x:Sp) :Bool:=decide (s.hn*x.hd- x.hn*s.hd>0) || (decide (s.hn*x.hd- x.hn*s.hd=0) && !x.hc)
def qT (s x:Sp) :Sp:=if uM s x=true then {s with ln:=x.ln,ld:=x.ld,lc:=x.lc} else s
def ko (s x:Sp) :Sp:=if wH s x=true then {s with hn:=x.hn,hd:=x.hd,hc:=x.hc} else s
def J5 (s x:Sp) :Sp:=ko (qT s x) x
theorem Vd {a b c d e f:Int} (hd:0<d) (hb:0<b) (hf:0<f) (h1:a*d≤c*b) (h2:c*f≤e*d) :a*f≤e*b:=by
 have p1:=jih h1 (jjA hf)
 have p2:=jih h2 (jjA hb)
 have e1:a*d*f=a*f*d:=by rw [jjh,jiW d f,←jjh]
 have e2:c*b*f=c*f*b:=by rw [jjh,jiW b f,←jjh]
 have e3:e*d*b=e*b*d:=by rw [jjh,jiW d b,←jjh]
 rw [e1,e2] at p1
 rw [e3] at p2
 exact jiT (jjs p1 p2) hd
theorem VD {a b c d e f:Int} (hd:0<d) (hb:0<b) (hf:0<f) (h1:a*d<c*b) (h2:c*f≤e*d) :a*f<e*b:=by
 have p1:=jiQ h1 hf
 have p2:=jih h2 (jjA hb)
 have e1:a*d*f=a*f*d:=by rw [jjh,jiW d f,←jjh]
 have e2:c*b*f=c*f*b:=by rw [jjh,jiW b f,←jjh]
 have e3:e*d*b=e*b*d:=by rw [jjh,jiW d b,←jjh]
 rw [e1,e2] at p1
 rw [e3] at p2
 exact ji4 (Int.lt_of_lt_of_le p1 p2) (jjA hd)
theorem vj {a b c d e f:Int} (hd:0<d) (hb:0<b) (hf:0<f) (h1:a*d≤c*b) (h2:c*f<e*d) :a*f<e*b:=by
 have p1:=jih h1 (jjA hf)
 have p2:=jiQ h2 hb
 have e1:a*d*f=a*f*d:=by rw [jjh,jiW d f,←jjh]
 have e2:c*b*f=c*f*b:=by rw [jjh,jiW b f,←jjh]
 have e3:e*d*b=e*b*d:=by rw [jjh,jiW d b,←jjh]
 rw [e1,e2] at p1
 rw [e3] at p2
 exact ji4 (Int.lt_of_le_of_lt p1 p2) (jjA hd)
theorem jcN {s x:Sp} (h1:0<s.ld) (h2:0<s.hd) (h3:0<x.ld) (h:vp (qT s x) =true) :vp s=true:=by
 unfold qT at h
 split at h
 case isFalse=>exact h
 case isTrue hu=>
  simp only [vp,uM,ji2,jig,decide_eq_true_eq,ji0] at*
  obtain ⟨sln,sld,slc,shn,shd,shc⟩ :=s
  obtain ⟨xln,xld,xlc,xhn,xhd,xhc⟩ :=x
  simp only at*
  rcases hu with hu |⟨hu,hx⟩
  ·left
   have:sln*shd<shn*sld:=by
    rcases h with h | h
    ·exact vj (d:=xld) (c:=xln) h3 h1 h2 Om Om
    ·exact VD (d:=xld) (c:=xln) h3 h1 h2 Om Om
   omega
  ·rcases h with h |⟨⟨h,h'⟩,_⟩
   ·left
    have:sln*shd<shn*sld:=vj (d:=xld) (c:=xln) h3 h1 h2 Om Om
    omega
   ·rw [hx] at h';cases h'
theorem jas {s x:Sp} (h1:0<s.ld) (h2:0<s.hd) (h3:0<x.hd) (h:vp (ko s x) =true) :vp s=true:=by
 unfold ko at h
 split at h
 case isFalse=>exact h
 case isTrue hu=>
  simp only [vp,wH,ji2,jig,decide_eq_true_eq,ji0] at*
  obtain ⟨sln,sld,slc,shn,shd,shc⟩ :=s
  obtain ⟨xln,xld,xlc,xhn,xhd,xhc⟩ :=x
  simp only at*
  rcases hu with hu |⟨hu,hx⟩
  ·left
   have:sln*shd<shn*sld:=by
    rcases h with h | h
    ·exact VD (d:=xhd) (c:=xhn) h3 h1 h2 Om Om
    ·exact vj (d:=xhd) (c:=xhn) h3 h1 h2 Om Om
   omega
  ·rcases h with h |⟨⟨h,_⟩,h'⟩
   ·left
    have:sln*shd<shn*sld:=VD (d:=xhd) (c:=xhn) h3 h1 h2 Om Om
    omega
   ·rw [hx] at h';cases h'
def QZ (f d lo:Int) :Sp:=if 0<d then⟨lo- f,d,true,lo+2- f,d,false⟩ else if d<0 then⟨f- lo- 2,-d,false,f- lo,-d,true⟩ else WG
def KC (f d lo:Int) :Bool:= !decide (d=0) || (decide (lo≤f) &&decide (f<lo+2))
def VO (s:Sp) (f d lo:Int) :Sp:=if d=0 then s else J5 s (QZ f d lo)
def uG (s:Sp) (f d lo:Int) :Bool:=if d=0 then decide (lo≤f) &&decide (f<lo+2) else vp (J5 s (QZ f d lo))
theorem Ke (f d lo:Int) :0< (QZ f d lo).ld∧0< (QZ f d lo).hd:=by
 unfold QZ
 split
 ·exact⟨by assumption,by assumption⟩
 ·split
  ·exact⟨by simp;omega,by simp;omega⟩
  ·exact⟨by decide,by decide⟩
theorem zu {s x:Sp} (h:0<s.ld∧0<s.hd) (hx:0<x.ld∧0<x.hd) :0< (qT s x).ld∧0< (qT s x).hd:=by
 unfold qT;split
 ·exact⟨hx.1,h.2⟩
 ·exact h
theorem KM {s x:Sp} (h:0<s.ld∧0<s.hd) (hx:0<x.ld∧0<x.hd) :0< (J5 s x).ld∧0< (J5 s x).hd:=by
 have h':=zu h hx
 unfold J5 ko;split
 ·exact⟨h'.1,hx.2⟩
 ·exact h'
theorem uZ:0<WG.ld∧0<WG.hd:=⟨by decide,by decide⟩
theorem jat {s x:Sp} (h:0<s.ld∧0<s.hd) (hx:0<x.ld∧0<x.hd) (hn:vp (J5 s x) =true) :vp s=true:=by
 have h':=zu h hx
 exact jcN h.1 h.2 hx.1 (jas h'.1 h'.2 hx.2 hn)
def FI (s:Sp) :Prop:=0≤s.ln∧s.hn≤s.hd
theorem FJ {x:Sp} :FI (J5 WG x) :=by
 unfold FI J5 ko qT wH uM WG
 constructor
 ·split<;>split<;>simp_all<;>omega
 ·split<;>split<;>simp_all<;>omega
theorem Tg {s:Sp} (h:FI s) :J5 s WG=s:=by
 obtain ⟨h1,h2⟩ :=h
 have e1:uM s WG=false:=by simp [uM,WG];omega
 have e2:wH s WG=false:=by simp [wH,WG];omega
 have e3:qT s WG=s:=by rw [qT,e1];rfl
 rw [J5,e3,ko,e2];rfl
theorem Be:FI WG:=⟨by decide,by decide⟩
def Xb (f d lo f' d' lo':Int) :Bool:=KC f d lo&&KC f' d' lo'&&vp (J5 (J5 WG (QZ f d lo)) (QZ f' d' lo'))
theorem VJ (f lo:Int) :QZ f 0 lo=WG:=by simp [QZ]
theorem MC {s:Sp} (h:FI s) (f d lo:Int) :VO s f d lo=J5 s (QZ f d lo) :=by
 unfold VO
 split
 ·rename_i h0;subst h0;rw [VJ,Tg h]
 ·rfl
theorem RY {s:Sp} (h:FI s) (hn:vp s=true) (f d lo:Int) :uG s f d lo= (KC f d lo&&vp (J5 s (QZ f d lo))) :=by
 unfold uG KC
 split
 ·rename_i h0;subst h0;rw [VJ,Tg h,hn];simp
 ·rename_i h0;simp [h0]
theorem R3 (f d lo f' d' lo':Int) :Xb f d lo f' d' lo'= (uG WG f d lo&&uG (VO WG f d lo) f' d' lo') :=by
 have hn0:vp WG=true:=by decide
 rw [MC Be,RY Be hn0,Xb]
 cases h1:KC f d lo
 ·simp
 ·cases h2:vp (J5 WG (QZ f d lo))
  ·have:vp (J5 (J5 WG (QZ f d lo)) (QZ f' d' lo')) =false:=by
    cases h3:vp (J5 (J5 WG (QZ f d lo)) (QZ f' d' lo'))
    ·rfl
    ·have:=jat (KM uZ (Ke _ _ _)) (Ke _ _ _) h3
     rw [h2] at this;cases this
   simp [this]
  ·rw [RY FJ h2]
   simp
abbrev bdV (n d:Int) (c:Bool) :Value:= .agg #[.int .i64 n, .int .i64 d, .bool c]
def bd1 (n d:Int) :Prop:= (-2097152≤n∧n≤2097152)∧-2097152≤d∧d≤2097152
theorem VA (n d n' d':Int) (c c':Bool) (w:World) (h:bd1 n d) (h':bd1 n' d') :
  Calls Tryz.prog 175 #[bdV n d c,bdV n' d' c'] w fun e w'=>e= .returned (.int .i64 (Wv (n*d'- n'*d)))∧Over w w':=by
 obtain ⟨⟨a1,a2⟩,a3,a4⟩ :=h
 obtain ⟨⟨b1,b2⟩,b3,b4⟩ :=h'
 obtain ⟨m1,m1'⟩ :=QW a1 a2 b3 b4
 obtain ⟨m2,m2'⟩ :=QW b1 b2 a3 a4
 refine jK (m:=17) (Tryz.func175) J J (lb J) ?_;refine S3 ?_;refine aX (fun b1=> ?_);refine N1 ?_;refine aX (fun b2=> ?_);refine N15 ?_;refine a9 (jG Q3 J J (fun w h=> (Ku _ w).mono fun e w' ⟨he,hw⟩ =>⟨he,hw▸Over.refl _⟩)) ?_;refine S3 ?_;refine jJ J (.tmp J) ?_
 intro w' hs
 exact⟨rfl,hs.fin⟩
def ja3 (s:Sp) :List Value:= [.int .i64 s.ln, .int .i64 s.ld, .bool s.lc, .int .i64 s.hn, .int .i64 s.hd, .bool s.hc]
structure bdP (s:Sp) :Prop where
 low:bd1 s.ln s.ld
 high:bd1 s.hn s.hd
theorem Zw (f d lo:Int) (f1: -524288≤f) (f2:f≤524288) (d1: -1048576≤d) (d2:d≤1048576) (l1: -524289≤lo) (l2:lo≤524289) :bdP (QZ f d lo) :=by
 unfold QZ
 split
 ·exact⟨⟨⟨by simp;omega,by simp;omega⟩,by simp;omega,by simp;omega⟩,⟨by simp;omega,by simp;omega⟩,by simp;omega,by simp;omega⟩
 ·split
  ·exact⟨⟨⟨by simp;omega,by simp;omega⟩,by simp;omega,by simp;omega⟩,⟨by simp;omega,by simp;omega⟩,by simp;omega,by simp;omega⟩
  ·exact⟨⟨⟨by decide,by decide⟩,by decide,by decide⟩,⟨by decide,by decide⟩,by decide,by decide⟩
theorem wz {s x:Sp} (hs:bdP s) (hx:bdP x) :bdP (qT s x) :=by
 unfold qT;split
 ·exact⟨hx.low,hs.high⟩
 ·exact hs
theorem wR {s x:Sp} (hs:bdP s) (hx:bdP x) :bdP (ko s x) :=by
 unfold ko;split
 ·exact⟨hs.low,hx.high⟩
 ·exact hs
theorem Ei {n:Int} : (Wv n<0)↔n<0:=by unfold Wv;split<;> (try split) <;>omega
theorem vv (n:Int) : (n<0∧Wv n= -1)∨(n=0∧Wv n=0)∨(0<n∧Wv n=1) :=by unfold Wv;split<;> (try split) <;>omega
theorem RZ (b:Nat) (s:Sp) (f d lo:Int) (w:World) (hs:bdP s) (f1: -524288≤f) (f2:f≤524288) (d1: -1048576≤d) (d2:d≤1048576) (l1: -524289≤lo) (l2:lo≤524289)
  (hh:w.heap[b]? =some (.cells (ja3 s).toArray 206 (0,0))) :
  Calls Tryz.prog 228 #[.pointer (some ⟨b,0,none⟩), .int .i64 f, .int .i64 d, .int .i64 lo] w fun e w'=>e= .returned (.bool (uG s f d lo))∧Wr b w w'∧w'.heap[b]? =some (.cells (ja3 (VO s f d lo)).toArray 206 (0,0)) :=by
 have hx:=Zw f d lo f1 f2 d1 d2 l1 l2
 obtain ⟨x,ex⟩ :∃x,QZ f d lo=x:=⟨_,rfl⟩
 rw [ex] at hx
 have hs1:=wz hs hx
 have hs2:=wR hs1 hx
 obtain ⟨x1,x2⟩ :=hx
 obtain ⟨y1,y2⟩ :=hs
 obtain ⟨z1,z2⟩ :=hs1
 obtain ⟨u1,u2⟩ :=hs2
 refine QD (m:=122) (Tryz.func228) J J (lb J) (hh) ?_;refine S10 ?_;refine cZ (fun c1=> ?_) (fun c1=> ?_)
 ·refine S6 ?_;refine cV 19 (fun g1=> ?_) (fun g1=> ?_)
  ·refine S13 ?_;refine jJ J (.tmp J) ?_
   intro w' hs
   exact⟨by subst c1;simp [uG,g1],hs.over.wr,by subst c1;simpa [VO] using hs.cel (k:=0) rfl⟩
  ·refine S9 ?_;refine jJ J (.tmp J) ?_
   intro w' hs
   exact⟨by subst c1;simp [uG];omega,hs.over.wr,by subst c1;simpa [VO] using hs.cel (k:=0) rfl⟩
 ·refine S8 ?_;refine a9 (JF J J (kf J J J)) ?_;refine S5 ?_;refine a9 (JF J J (kf J J J)) ?_;refine S1 ?_;refine aL (fun b1=> ?_);refine N1 ?_;refine aL (fun b2=> ?_);refine N5 ?_;refine WR [] ([.cel b 206 (ja3 s), .cel b1 204 [.int .i64 x.ln, .int .i64 x.ld, .bool x.lc], .cel b2 204 [.int .i64 x.hn, .int .i64 x.hd, .bool x.hc]]) (kK [0,8,9,10]) (fun L h_t37=> ?_) ?_
  ·refine S5 ?_;refine cZ (fun c2=> ?_) (fun c2=> ?_)
   ·refine S6 ?_;refine a9 (uv J J Om Om) ?_;refine a9 (JF J J (kf J J J)) ?_;refine S4 ?_;refine a9 (uv J J Om Om) ?_;refine a9 (JF J J (kf J J J)) ?_;refine S5 ?_
    exact Js h_t37 ⟨J,sz⟩ (fun _ h=>h.upto ⟨J,by rw [←ex,QZ,if_neg Om,if_pos c2] <;>rfl,by rw [←ex,QZ,if_neg Om,if_pos c2] <;>rfl,trivial⟩)
   ·refine S2 ?_
    exact Js h_t37 ⟨J,sz⟩ (fun _ h=>h.upto ⟨J,by rw [←ex,QZ,if_pos Om] <;>rfl,by rw [←ex,QZ,if_pos Om] <;>rfl,trivial⟩)
  ·refine v9 ?_;refine WR [] ([.cel b 206 (ja3 (qT s x)), .cel b1 204 [.int .i64 x.ln, .int .i64 x.ld, .bool x.lc], .cel b2 204 [.int .i64 x.hn, .int .i64 x.hd, .bool x.hc]]) (kK [0,8,10]) (fun L h_t67=> ?_) ?_
   ·refine S2 ?_;refine JH 7 ?_;refine dK 0 ?_;refine dK 1 ?_;refine dK 2 ?_;refine dK 3 ?_;refine dK 4 ?_;refine dZ 5 J (jG K0 J J (fun w h=>VA _ _ _ _ _ _ w (by assumption) (by assumption))) ?_;refine dK 6 ?_;refine JB Kr ?_;refine S1 ?_;refine qr [(67, .bool (uM s x))] (kK [0,8,9,10]) (fun L h_7=> ?_) ?_
    ·refine S4 ?_;refine cV 59 (fun g2=> ?_) (fun g2=> ?_)
     ·refine S9 ?_
      exact Js h_7 ⟨vb (by have k:=vv (x.ln*s.ld- s.ln*x.ld);symm;simp [uM];omega),sz⟩ (u9 rfl)
     ·refine S6 ?_;refine cV 62 (fun g3=> ?_) (fun g3=> ?_)
      ·refine S10 ?_
       exact Js h_7 ⟨vb (by have k:=vv (x.ln*s.ld- s.ln*x.ld);have e:s.ln*x.ld- x.ln*s.ld=0:=Om;simp [uM,e]),sz⟩ (u9 rfl)
      ·refine S7 ?_
       exact Js h_7 ⟨vb (by have k:=vv (x.ln*s.ld- s.ln*x.ld);symm;simp [uM];omega),sz⟩ (u9 rfl)
    ·refine v9 ?_;refine cZ (fun c3=> ?_) (fun c3=> ?_)
     ·refine S6 ?_;refine OC (k:=0) J J J J (J) (by rfl) Kh.szx J ?_;refine N1 ?_
      exact Js h_t67 ⟨J,sz⟩ (fun _ h=>h.upto ⟨by rw [qT,if_pos c3] <;>rfl,sz⟩)
     ·refine S2 ?_
      exact Js h_t67 ⟨J,sz⟩ (fun _ h=>h.upto ⟨by rw [qT,c3] <;>rfl,sz⟩)
   ·refine v9 ?_;refine WR [] ([.cel b 206 (ja3 (J5 s x)), .cel b1 204 [.int .i64 x.ln, .int .i64 x.ld, .bool x.lc], .cel b2 204 [.int .i64 x.hn, .int .i64 x.hd, .bool x.hc]]) (kK [0,8]) (fun L h_t88=> ?_) ?_
    ·refine S2 ?_;refine JH 7 ?_;refine dK 0 ?_;refine dK 1 ?_;refine dK 2 ?_;refine dK 3 ?_;refine dK 4 ?_;refine dZ 5 J (jG K0 J J (fun w h=>VA _ _ _ _ _ _ w (by assumption) (by assumption))) ?_;refine dK 6 ?_;refine JB Kr ?_;refine S1 ?_;refine qr [(88, .bool (wH (qT s x) x))] (kK [0,8,10]) (fun L h_10=> ?_) ?_
     ·refine S4 ?_;refine cV 80 (fun g4=> ?_) (fun g4=> ?_)
      ·refine S9 ?_
       exact Js h_10 ⟨vb (by have k:=vv (x.hn* (qT s x).hd- (qT s x).hn*x.hd);symm;simp [wH];omega),sz⟩ (u9 rfl)
      ·refine S6 ?_;refine cV 83 (fun g5=> ?_) (fun g5=> ?_)
       ·refine S10 ?_
        exact Js h_10 ⟨vb (by have k:=vv (x.hn* (qT s x).hd- (qT s x).hn*x.hd);have e: (qT s x).hn*x.hd- x.hn* (qT s x).hd=0:=Om;simp [wH,e]),sz⟩ (u9 rfl)
       ·refine S7 ?_
        exact Js h_10 ⟨vb (by have k:=vv (x.hn* (qT s x).hd- (qT s x).hn*x.hd);symm;simp [wH];omega),sz⟩ (u9 rfl)
     ·refine v9 ?_;refine cZ (fun c4=> ?_) (fun c4=> ?_)
      ·refine S6 ?_;refine OG (k:=0) J J J J (J) (by rfl) Kh.szx J ?_;refine N1 ?_
       exact Js h_t88 ⟨J,sz⟩ (fun _ h=>h.upto ⟨by rw [J5,ko,if_pos c4] <;>rfl,sz⟩)
      ·refine S2 ?_
       exact Js h_t88 ⟨J,sz⟩ (fun _ h=>h.upto ⟨by rw [J5,ko,c4] <;>rfl,sz⟩)
    ·refine V2 ?_;refine JH 10 ?_;refine dK 0 ?_;refine dK 1 ?_;refine dK 2 ?_;refine dK 3 ?_;refine dK 4 ?_;refine dK 5 ?_;refine dK 6 ?_;refine dK 7 ?_;refine dZ 8 J (jG K0 J J (fun w h=>VA _ _ _ _ _ _ w (by assumption) (by assumption))) ?_;refine dK 9 ?_;refine JB Kr ?_;refine S6 ?_;refine cV 104 (fun g6=> ?_) (fun g6=> ?_)
     ·refine S20 ?_;refine jJ J (.tmp J) ?_
      intro w' hs
      have k:=vv ((J5 s x).ln* (J5 s x).hd- (J5 s x).hn* (J5 s x).ld)
      exact⟨QH (by rw [uG,if_neg c1,ex];symm;simp [vp];omega),hs.over.wr,by rw [VO,if_neg c1,ex];exact hs.cel (k:=0) rfl⟩
     ·refine S6 ?_;refine cV 107 (fun g7=> ?_) (fun g7=> ?_)
      ·refine S14 ?_;refine cV 114 (fun g8=> ?_) (fun g8=> ?_)
       ·refine S16 ?_;refine jJ J (.tmp J) ?_
        intro w' hs
        have k:=vv ((J5 s x).ln* (J5 s x).hd- (J5 s x).hn* (J5 s x).ld)
        have e: (J5 s x).ln* (J5 s x).hd- (J5 s x).hn* (J5 s x).ld=0:=Om
        exact⟨QH (by rw [uG,if_neg c1,ex];simp [vp,e, *]),hs.over.wr,by rw [VO,if_neg c1,ex];exact hs.cel (k:=0) rfl⟩
       ·refine S11 ?_;refine jJ J (.tmp J) ?_
        intro w' hs
        have k:=vv ((J5 s x).ln* (J5 s x).hd- (J5 s x).hn* (J5 s x).ld)
        have e: (J5 s x).ln* (J5 s x).hd- (J5 s x).hn* (J5 s x).ld=0:=Om
        exact⟨QH (by rw [uG,if_neg c1,ex];simp [vp,e, *]),hs.over.wr,by rw [VO,if_neg c1,ex];exact hs.cel (k:=0) rfl⟩
      ·refine S20 ?_;refine jJ J (.tmp J) ?_
       intro w' hs
       have k:=vv ((J5 s x).ln* (J5 s x).hd- (J5 s x).hn* (J5 s x).ld)
       exact⟨QH (by rw [uG,if_neg c1,ex];symm;simp [vp];omega),hs.over.wr,by rw [VO,if_neg c1,ex];exact hs.cel (k:=0) rfl⟩
abbrev jf4 (s:Sp) :Value:= .agg #[.int .i64 s.ln, .int .i64 s.ld, .bool s.lc, .int .i64 s.hn, .int .i64 s.hd, .bool s.hc]
theorem Bd:bdP WG:=⟨⟨by decide,by decide⟩,by decide,by decide⟩
theorem jbG {s:Sp} {f d lo:Int} (hs:bdP s) (hx:bdP (QZ f d lo)) :bdP (VO s f d lo) :=by
 unfold VO;split
 ·exact hs
 ·exact wR (wz hs hx) hx
theorem Du (ax ay bx b_y px_ py_:Int) (w:World) (ha:wX ax ay=true) (hb:wX bx b_y=true) (hp:wX px_ py_=true) :
  Calls Tryz.prog 172 #[ub ax ay,ub bx b_y,ub px_ py_] w fun e w'=>e= .returned (.tuple #[jf4 (if uG WG (2*ax) (2* (bx- ax)) (2*px_- 1) =true then VO (VO WG (2*ax) (2* (bx- ax)) (2*px_- 1)) (2*ay) (2* (b_y- ay)) (2*py_- 1) else VO WG (2*ax) (2* (bx- ax)) (2*px_- 1)),
   .bool (uG WG (2*ax) (2* (bx- ax)) (2*px_- 1) &&uG (VO WG (2*ax) (2* (bx- ax)) (2*px_- 1)) (2*ay) (2* (b_y- ay)) (2*py_- 1))])∧Over w w':=by
 simp [wX,Yt] at ha hb hp
 have hs1:=jbG (f:=2*ax) (d:=2* (bx- ax)) (lo:=2*px_- 1) Bd (Zw _ _ _ Om Om Om Om Om Om)
 refine jK (m:=45) (Tryz.func172) J J (lb J) ?_;refine S3 ?_;refine aX (fun b1=> ?_);refine N1 ?_;refine aX (fun b2=> ?_);refine N1 ?_;refine aX (fun b3=> ?_);refine N1 ?_;refine aL (fun b4=> ?_);refine N4 ?_;refine a9 (JF J J (kf J J J)) ?_;refine a9 (JF J J (kf J J J)) ?_;refine a9 (JF J J (yS J J)) ?_;refine S1 ?_;refine aL (fun b5=> ?_);refine N4 ?_;refine jhg (Rs':= [.cel b1 28 [.int .i64 ax, .int .i64 ay], .cel b2 28 [.int .i64 bx, .int .i64 b_y], .cel b3 28 [.int .i64 px_, .int .i64 py_], .cel b4 206 [.int .i64 0, .int .i64 0, .bool false, .int .i64 0, .int .i64 0, .bool false], .cel b5 206 (ja3 WG)]) (fun _ h=>h) ?_;refine S15 ?_;refine QF (k:=4) wb J J J Dc J (fun w h=>RZ b5 WG (2*ax) (2* (bx- ax)) (2*px_- 1) w Bd Om Om Om Om Om Om (h.cel (k:=4) J)) ?_;refine N1 ?_;refine cV 27 (fun g1=> ?_) (fun g1=> ?_)
 ·refine S27 ?_;refine QF (k:=4) wb J J J Dc J (fun w h=>RZ b5 (VO WG (2*ax) (2* (bx- ax)) (2*px_- 1)) (2*ay) (2* (b_y- ay)) (2*py_- 1) w hs1 Om Om Om Om Om Om (h.cel (k:=4) J)) ?_;refine N12 ?_;refine JX J (JZ (k:=3) J vO J J) (.tmp J) ?_
  intro w' hs
  exact⟨by rw [if_pos g1,g1,jiJ];rfl,hs.fin⟩
 ·refine S26 ?_;refine JX J (JZ (k:=3) J vO J J) (.tmp J) ?_
  intro w' hs
  exact⟨by rw [if_neg (by rw [g1];simp),g1,jiS];rfl,hs.fin⟩
abbrev spV (s:Sp) :Value:= .agg #[.int .i64 s.ln, .int .i64 s.ld, .int .i64 s.hn, .int .i64 s.hd, .bool s.lc, .bool s.hc]
def spC (s:Sp) :List Value:= [.int .i64 s.ln, .int .i64 s.ld, .int .i64 s.hn, .int .i64 s.hd, .bool s.lc, .bool s.hc]
theorem HL (f d lo hi:Int) (w:World) (hh:hi=lo+2) (f1: -1048576≤f) (f2:f≤1048576) (d1: -1048576≤d) (d2:d≤1048576) (l1: -1048576≤lo) (l2:lo≤1048576) :
  Calls Tryz.prog 272 #[.int .i64 f, .int .i64 d, .int .i64 lo, .int .i64 hi] w fun e w'=>e= .returned (.tuple #[spV (QZ f d lo), .bool (KC f d lo)])∧Over w w':=by
 subst hh
 have tv:∀ {s s':Sp} {a a':Bool},s'=s→a'=a→Ending.returned (.tuple #[spV s, .bool a]) =Ending.returned (.tuple #[spV s', .bool a']) :=fun h1 h2=>by rw [h1,h2]
 refine jK (m:=45) (Tryz.func272) J J (lb J) ?_;refine S3 ?_;refine aL (fun b1=> ?_);refine N10 ?_;refine cZ (fun c1=> ?_) (fun c1=> ?_)
 ·refine S10 ?_;refine a9 (JF J J (Ug J J J J J)) ?_;refine S7 ?_;refine JX J (JZ (k:=0) J qo J J) (.tmp J) ?_
  intro w' hs
  exact⟨tv (s:=⟨lo- f,d,true,lo+2- f,d,false⟩) (by rw [QZ,if_pos c1]) (by simp [KC];omega),hs.fin⟩
 ·refine S6 ?_;refine cZ (fun c2=> ?_) (fun c2=> ?_)
  ·refine S6 ?_;refine a9 (uv J J Om Om) ?_;refine S4 ?_;refine a9 (uv J J Om Om) ?_;refine a9 (JF J J (Uh J J J J J)) ?_;refine S7 ?_;refine JX J (JZ (k:=0) J qo J J) (.tmp J) ?_
   intro w' hs
   exact⟨tv (s:=⟨f- (lo+2),-d,false,f- lo,-d,true⟩) (by rw [QZ,if_neg Om,if_pos c2];congr 1;omega) (by simp [KC];omega),hs.fin⟩
  ·refine S5 ?_;refine a9 (JF J J (vQ J J J J J J)) ?_;refine S4 ?_;refine cV 40 (fun g1=> ?_) (fun g1=> ?_)
   ·refine S12 ?_;refine JX J (JZ (k:=0) J qo J J) (.tmp J) ?_
    intro w' hs
    exact⟨tv (s:=WG) (by rw [QZ,if_neg Om,if_neg Om]) (by simp [KC,show d=0 by omega,g1]),hs.fin⟩
   ·refine S9 ?_;refine JX J (JZ (k:=0) J qo J J) (.tmp J) ?_
    intro w' hs
    exact⟨tv (s:=WG) (by rw [QZ,if_neg Om,if_neg Om]) (by simp [KC,show d=0 by omega];omega),hs.fin⟩
theorem Fq9 {a b c d:Int} (h:bd1 a b) (k:bd1 c d) : (-4398046511104≤a*d∧a*d≤4398046511104)∧(-4398046511104≤c*b∧c*b≤4398046511104) :=by
 obtain ⟨⟨a1,a2⟩,a3,a4⟩ :=h
 obtain ⟨⟨b1,b2⟩,b3,b4⟩ :=k
 exact⟨QW a1 a2 b3 b4,QW b1 b2 a3 a4⟩
theorem HM (s x:Sp) (w:World) (hs:bdP s) (hx:bdP x) :
  Calls Tryz.prog 273 #[spV s,spV x] w fun e w'=>e= .returned (spV (J5 s x))∧Over w w':=by
 have hs1:=wz hs hx
 obtain ⟨m1,m2⟩ :=Fq9 hs.low hx.low
 obtain ⟨m3,m4⟩ :=Fq9 hs1.high hx.high
 refine jK (m:=70) (Tryz.func273) J J (lb J) ?_;refine S3 ?_;refine aX (fun b1=> ?_);refine N1 ?_;refine aX (fun b2=> ?_);refine N1 ?_;refine aL (fun b3=> ?_);refine N16 ?_;refine WR [] ([.cel b1 273 (spC (qT s x)), .cel b2 273 (spC x), .cel b3 273 [.int .i64 0, .int .i64 0, .int .i64 0, .int .i64 0, .bool false, .bool false]]) (kK [2,3,4]) (fun L h_t28=> ?_) ?_
 ·refine qr [(28, .bool (uM s x))] (kK [2,3,4]) (fun L h_2=> ?_) ?_
  ·refine S4 ?_;refine cV 20 (fun g1=> ?_) (fun g1=> ?_)
   ·refine S9 ?_
    exact Js h_2 ⟨vb (by symm;simp [uM];omega),sz⟩ (u9 J)
   ·refine S6 ?_;refine cV 23 (fun g2=> ?_) (fun g2=> ?_)
    ·refine S10 ?_
     exact Js h_2 ⟨vb (by simp [uM,g2]),sz⟩ (u9 J)
    ·refine S7 ?_
     exact Js h_2 ⟨vb (by symm;simp [uM];omega),sz⟩ (u9 J)
  ·refine v9 ?_;refine cZ (fun c1=> ?_) (fun c1=> ?_)
   ·refine S6 ?_;refine OB (k:=0) J J J J (J) (by rfl) qW.szx J ?_;refine N7 ?_;refine OD (k:=0) J J J J (J) (by rfl) qW.szx J ?_;refine N6 ?_;refine OH (k:=0) J J J J (J) (by rfl) yK.szx J ?_;refine N1 ?_
    exact Js h_t28 ⟨J,sz⟩ (fun _ h=>h.upto ⟨by rw [qT,if_pos c1] <;>rfl,sz⟩)
   ·refine S2 ?_
    exact Js h_t28 ⟨J,sz⟩ (fun _ h=>h.upto ⟨by rw [qT,c1] <;>rfl,sz⟩)
 ·refine V15 ?_;refine WR [] ([.cel b1 273 (spC (J5 s x)), .cel b2 273 (spC x), .cel b3 273 [.int .i64 0, .int .i64 0, .int .i64 0, .int .i64 0, .bool false, .bool false]]) (kK [2,4]) (fun L h_t59=> ?_) ?_
  ·refine qr [(59, .bool (wH (qT s x) x))] (kK [2,3,4]) (fun L h_7=> ?_) ?_
   ·refine S4 ?_;refine cV 51 (fun g3=> ?_) (fun g3=> ?_)
    ·refine S9 ?_
     exact Js h_7 ⟨vb (by symm;simp [wH];omega),sz⟩ (u9 J)
    ·refine S6 ?_;refine cV 54 (fun g4=> ?_) (fun g4=> ?_)
     ·refine S10 ?_
      exact Js h_7 ⟨vb (by simp [wH,g4]),sz⟩ (u9 J)
     ·refine S7 ?_
      exact Js h_7 ⟨vb (by symm;simp [wH];omega),sz⟩ (u9 J)
   ·refine v9 ?_;refine cZ (fun c2=> ?_) (fun c2=> ?_)
    ·refine S6 ?_;refine OE (k:=0) J J J J (J) (by rfl) qW.szx J ?_;refine N7 ?_;refine OF (k:=0) J J J J (J) (by rfl) qW.szx J ?_;refine N6 ?_;refine OI (k:=0) J J J J (J) (by rfl) yK.szx J ?_;refine N1 ?_
     exact Js h_t59 ⟨J,sz⟩ (fun _ h=>h.upto ⟨by rw [J5,ko,if_pos c2] <;>rfl,sz⟩)
    ·refine S2 ?_
     exact Js h_t59 ⟨J,sz⟩ (fun _ h=>h.upto ⟨by rw [J5,ko,c2] <;>rfl,sz⟩)
  ·refine V7 ?_;refine jJ J (JZ (k:=2) J qo J J) ?_
   intro w' hs
   exact⟨rfl,hs.fin⟩
theorem B6 (ax ay bx b_y px_ py_:Int) (w:World) (ha:wX ax ay=true) (hb:wX bx b_y=true) (hp:wX px_ py_=true) :
  Calls Tryz.prog 249 #[ub ax ay,ub bx b_y,ub px_ py_] w fun e w'=>e= .returned (.tuple #[spV (if(KC (2*ax) (2* (bx- ax)) (2*px_- 1) &&KC (2*ay) (2* (b_y- ay)) (2*py_- 1)) =true then J5 (J5 WG (QZ (2*ax) (2* (bx- ax)) (2*px_- 1))) (QZ (2*ay) (2* (b_y- ay)) (2*py_- 1)) else WG),
   .bool (Xb (2*ax) (2* (bx- ax)) (2*px_- 1) (2*ay) (2* (b_y- ay)) (2*py_- 1))])∧Over w w':=by
 simp [wX,Yt] at ha hb hp
 have hx:=Zw (2*ax) (2* (bx- ax)) (2*px_- 1) Om Om Om Om Om Om
 have hy:=Zw (2*ay) (2* (b_y- ay)) (2*py_- 1) Om Om Om Om Om Om
 have h1:=wR (wz Bd hx) hx
 obtain ⟨sx,ex⟩ :∃s,QZ (2*ax) (2* (bx- ax)) (2*px_- 1) =s:=⟨_,rfl⟩
 obtain ⟨sy,ey⟩ :∃s,QZ (2*ay) (2* (b_y- ay)) (2*py_- 1) =s:=⟨_,rfl⟩
 obtain ⟨ix,jx⟩ :∃s,KC (2*ax) (2* (bx- ax)) (2*px_- 1) =s:=⟨_,rfl⟩
 obtain ⟨iy,jy⟩ :∃s,KC (2*ay) (2* (b_y- ay)) (2*py_- 1) =s:=⟨_,rfl⟩
 unfold Xb
 rw [ex] at hx h1
 rw [ey] at hy
 rw [ex,ey,jx,jy]
 change bdP (J5 WG sx) at h1
 obtain ⟨s2,e2⟩ :∃s,J5 (J5 WG sx) sy=s:=⟨_,rfl⟩
 rw [e2]
 have h2:bdP (J5 (J5 WG sx) sy) :=wR (wz h1 hy) hy
 rw [e2] at h2
 obtain ⟨m1,m2⟩ :=Fq9 h2.low h2.high
 have hA:∀w,Calls Tryz.prog 272 #[.int .i64 (2*ax), .int .i64 (2* (bx- ax)), .int .i64 (2*px_- 1), .int .i64 (2*px_+1)] w fun e w'=>e= .returned (.tuple #[spV sx, .bool ix])∧Over w w':=fun w=>ex▸jx▸HL _ _ _ _ w Om Om Om Om Om Om Om
 have hB:∀w,Calls Tryz.prog 272 #[.int .i64 (2*ay), .int .i64 (2* (b_y- ay)), .int .i64 (2*py_- 1), .int .i64 (2*py_+1)] w fun e w'=>e= .returned (.tuple #[spV sy, .bool iy])∧Over w w':=fun w=>ey▸jy▸HL _ _ _ _ w Om Om Om Om Om Om Om
 have hC:∀w,Calls Tryz.prog 273 #[spV (J5 WG sx),spV sy] w fun e w'=>e= .returned (spV s2)∧Over w w':=fun w=>e2▸HM _ _ w h1 hy
 refine jK (m:=95) (Tryz.func249) J J (lb J) ?_;refine S3 ?_;refine aX (fun b1=> ?_);refine N1 ?_;refine aX (fun b2=> ?_);refine N1 ?_;refine aX (fun b3=> ?_);refine N1 ?_;refine aL (fun b4=> ?_);refine N4 ?_;refine a9 (JF J J (vQ J J J J J J)) ?_;refine S1 ?_;refine aL (fun b5=> ?_);refine N22 ?_;refine a9 (jG YE J J (fun w h=>hA w)) ?_;refine S4 ?_;refine aL (fun b6=> ?_);refine N23 ?_;refine a9 (jG YE J J (fun w h=>hB w)) ?_;refine S4 ?_;refine aL (fun b7=> ?_);refine N5 ?_;refine qr [(62, .bool (!(ix&&iy)))] (kK [6,7,8,9,11]) (fun L h_4=> ?_) ?_
 ·refine S4 ?_;refine cV 59 (fun g1=> ?_) (fun g1=> ?_)
  ·refine S4 ?_
   exact Js h_4 ⟨vb (by simp [g1]),sz⟩ (u9 J)
  ·refine S6 ?_
   exact Js h_4 ⟨vb (by simp [g1]),sz⟩ (u9 J)
 ·refine v9 ?_;refine cZ (fun c1=> ?_) (fun c1=> ?_)
  ·refine S9 ?_;refine JX J (JZ (k:=3) J qo J J) (.tmp J) ?_
   intro w' hs
   have q: ((ix&&iy) =true) =False:= (by simp at c1;simp;exact c1)
   exact⟨by simp only [q,if_false];simp at c1;cases ix<;>simp_all [WG],hs.fin⟩
  ·have q: (ix&&iy) =true:= (by simpa using c1)
   refine S4 ?_;refine JH 5 ?_;refine dK 0 ?_;refine dK 1 ?_;refine dZ 2 J (jG YF J J (fun w h=>HM WG sx w Bd hx)) ?_;refine dK 3 ?_;refine dZ 4 J (jG YF J J (fun w h=>hC w)) ?_;refine kN J Kr J ?_;refine S1 ?_;refine uq Kr ?_;refine S18 ?_;refine Q0 17 [3] ?_;refine dK 0 ?_;refine dK 1 ?_;refine dK 2 ?_;refine dK 3 ?_;refine cV 83 (fun g2=> ?_) (fun g2=> ?_)
   ·refine fK 4 ?_;refine fK 5 ?_;refine fK 6 ?_;refine qS (i:=7) J Kr Kr Kr [] Kr (fun _ _ _ h=>h) J J J J J Dc (uw [3] J) ?_;refine qS (i:=8) J Kr Kr Kr [] Kr (fun _ _ _ h=>h) J J J J J Dc (uw [3] J) ?_;refine fK 9 ?_;refine fK 10 ?_;refine qS (i:=11) J Kr Kr Kr [] Kr (fun _ _ _ h=>h) J J J J J Dc (uw [3] J) ?_;refine qS (i:=12) J Kr Kr Kr [] Kr (fun _ _ _ h=>h) J J J J J Dc (uw [3] J) ?_;refine fK 13 ?_;refine dK 14 ?_;refine qd (i:=15) J Dc Kr J ?_;refine S1 ?_;refine JU (uw [3] J) ?_;refine dK 16 ?_;refine JB Kr ?_;refine S2 ?_;refine JX J (JZ (k:=3) J qo J J) (.tmp J) ?_
    intro w' hs
    exact⟨by rw [if_pos q,q,jiJ,show vp s2=true from(by simp [vp];omega)],hs.fin⟩
   ·refine eK 4 ?_;refine eK 5 ?_;refine eK 6 ?_;refine cV 86 (fun g3=> ?_) (fun g3=> ?_)
    ·refine eK 7 ?_;refine eK 8 ?_;refine eK 9 ?_;refine eK 10 ?_;refine cV 90 (fun g4=> ?_) (fun g4=> ?_)
     ·refine eK 11 ?_;refine eK 12 ?_;refine eK 13 ?_;refine dK 14 ?_;refine qd (i:=15) J Dc Kr J ?_;refine S1 ?_;refine JU (uw [3] J) ?_;refine dK 16 ?_;refine JB Kr ?_;refine S2 ?_;refine JX J (JZ (k:=3) J qo J J) (.tmp J) ?_
      intro w' hs
      exact⟨by rw [if_pos q,q,jiJ,show vp s2=s2.hc from(by simp [vp, *])],hs.fin⟩
     ·refine fK 11 ?_;refine fK 12 ?_;refine eK 13 ?_;refine dK 14 ?_;refine qd (i:=15) J Dc Kr J ?_;refine S1 ?_;refine JU (uw [3] J) ?_;refine dK 16 ?_;refine JB Kr ?_;refine S2 ?_;refine JX J (JZ (k:=3) J qo J J) (.tmp J) ?_
      intro w' hs
      exact⟨by rw [if_pos q,q,jiJ,show vp s2=false from(by simp [vp, *])],hs.fin⟩
    ·refine fK 7 ?_;refine fK 8 ?_;refine eK 9 ?_;refine eK 10 ?_;refine fK 11 ?_;refine fK 12 ?_;refine eK 13 ?_;refine dK 14 ?_;refine qd (i:=15) J Dc Kr J ?_;refine S1 ?_;refine JU (uw [3] J) ?_;refine dK 16 ?_;refine JB Kr ?_;refine S2 ?_;refine JX J (JZ (k:=3) J qo J J) (.tmp J) ?_
     intro w' hs
     exact⟨by rw [if_pos q,q,jiJ,show vp s2=false from(by simp [vp];omega)],hs.fin⟩
end Go.Proofs.YtbahojdbmmjkcaaGreat
