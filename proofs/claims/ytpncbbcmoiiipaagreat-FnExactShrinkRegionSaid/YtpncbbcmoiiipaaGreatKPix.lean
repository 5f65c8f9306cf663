import Derived.Test.YtpncbbcmoiiipaaGreatKMem
import Derived.Test.YtpncbbcmoiiipaaGreatKDat
set_option linter.unusedVariables false
set_option linter.unusedSimpArgs false
namespace Go.Proofs.YtpncbbcmoiiipaaGreat
open Go Go.RowKit
set_option maxRecDepth 100000
set_option maxHeartbeats 4000000
structure Sp where
 ln:Int
 ld:Int
 lc:Bool
 hn:Int
 hd:Int
 hc:Bool
def W6:Sp:=⟨0,1,true,1,1,true⟩
def vP (s:Sp) :Bool:=decide (s.ln*s.hd- s.hn*s.ld<0) || (decide (s.ln*s.hd- s.hn*s.ld=0) &&s.lc&&s.hc)
def Ui (s x:Sp) :Bool:=decide (s.ln*x.ld- x.ln*s.ld<0) || (decide (s.ln*x.ld- x.ln*s.ld=0) && !x.lc)
def Wk (s x:Sp) :Bool:=decide (s.hn*x.hd- x.hn*s.hd>0) || (decide (s.hn*x.hd- x.hn*s.hd=0) && !x.hc)
def qY (s x:Sp) :Sp:=if Ui s x=true then {s with ln:=x.ln,ld:=x.ld,lc:=x.lc} else s
def ko (s x:Sp) :Sp:=if Wk s x=true then {s with hn:=x.hn,hd:=x.hd,hc:=x.hc} else s
def J7 (s x:Sp) :Sp:=ko (qY s x) x
theorem vq {a b c d e f:Int} (hd:0<d) (hb:0<b) (hf:0<f) (h1:a*d≤c*b) (h2:c*f≤e*d) :a*f≤e*b:=by
 have p1:=jij h1 (ji5 hf)
 have p2:=jij h2 (ji5 hb)
 have e1:a*d*f=a*f*d:=by rw [jji,jiV d f,←jji]
 have e2:c*b*f=c*f*b:=by rw [jji,jiV b f,←jji]
 have e3:e*d*b=e*b*d:=by rw [jji,jiV d b,←jji]
 rw [e1,e2] at p1
 rw [e3] at p2
 exact jiS (jjC p1 p2) hd
theorem wd {a b c d e f:Int} (hd:0<d) (hb:0<b) (hf:0<f) (h1:a*d<c*b) (h2:c*f≤e*d) :a*f<e*b:=by
 have p1:=jiz h1 hf
 have p2:=jij h2 (ji5 hb)
 have e1:a*d*f=a*f*d:=by rw [jji,jiV d f,←jji]
 have e2:c*b*f=c*f*b:=by rw [jji,jiV b f,←jji]
 have e3:e*d*b=e*b*d:=by rw [jji,jiV d b,←jji]
 rw [e1,e2] at p1
 rw [e3] at p2
 exact jiP (Int.lt_of_lt_of_le p1 p2) (ji5 hd)
theorem KS {a b c d e f:Int} (hd:0<d) (hb:0<b) (hf:0<f) (h1:a*d≤c*b) (h2:c*f<e*d) :a*f<e*b:=by
 have p1:=jij h1 (ji5 hf)
 have p2:=jiz h2 hb
 have e1:a*d*f=a*f*d:=by rw [jji,jiV d f,←jji]
 have e2:c*b*f=c*f*b:=by rw [jji,jiV b f,←jji]
 have e3:e*d*b=e*b*d:=by rw [jji,jiV d b,←jji]
 rw [e1,e2] at p1
 rw [e3] at p2
 exact jiP (Int.lt_of_le_of_lt p1 p2) (ji5 hd)
theorem jcy {s x:Sp} (h1:0<s.ld) (h2:0<s.hd) (h3:0<x.ld) (h:vP (qY s x) =true) :vP s=true:=by
 unfold qY at h
 split at h
 case isFalse=>exact h
 case isTrue hu=>
  simp only [vP,Ui,ji4,jig,decide_eq_true_eq,ji2] at*
  obtain ⟨sln,sld,slc,shn,shd,shc⟩ :=s
  obtain ⟨xln,xld,xlc,xhn,xhd,xhc⟩ :=x
  simp only at*
  rcases hu with hu |⟨hu,hx⟩
  ·left
   have:sln*shd<shn*sld:=by
    rcases h with h | h
    ·exact KS (d:=xld) (c:=xln) h3 h1 h2 Om Om
    ·exact wd (d:=xld) (c:=xln) h3 h1 h2 Om Om
   omega
  ·rcases h with h |⟨⟨h,h'⟩,_⟩
   ·left
    have:sln*shd<shn*sld:=KS (d:=xld) (c:=xln) h3 h1 h2 Om Om
    omega
   ·rw [hx] at h';cases h'
theorem EV {s x:Sp} (h1:0<s.ld) (h2:0<s.hd) (h3:0<x.hd) (h:vP (ko s x) =true) :vP s=true:=by
 unfold ko at h
 split at h
 case isFalse=>exact h
 case isTrue hu=>
  simp only [vP,Wk,ji4,jig,decide_eq_true_eq,ji2] at*
  obtain ⟨sln,sld,slc,shn,shd,shc⟩ :=s
  obtain ⟨xln,xld,xlc,xhn,xhd,xhc⟩ :=x
  simp only at*
  rcases hu with hu |⟨hu,hx⟩
  ·left
   have:sln*shd<shn*sld:=by
    rcases h with h | h
    ·exact wd (d:=xhd) (c:=xhn) h3 h1 h2 Om Om
    ·exact KS (d:=xhd) (c:=xhn) h3 h1 h2 Om Om
   omega
  ·rcases h with h |⟨⟨h,_⟩,h'⟩
   ·left
    have:sln*shd<shn*sld:=wd (d:=xhd) (c:=xhn) h3 h1 h2 Om Om
    omega
   ·rw [hx] at h';cases h'
def QW (f d lo:Int) :Sp:=if 0<d then⟨lo- f,d,true,lo+2- f,d,false⟩ else if d<0 then⟨f- lo- 2,-d,false,f- lo,-d,true⟩ else W6
def KM (f d lo:Int) :Bool:= !decide (d=0) || (decide (lo≤f) &&decide (f<lo+2))
def wo (s:Sp) (f d lo:Int) :Sp:=if d=0 then s else J7 s (QW f d lo)
def Ud (s:Sp) (f d lo:Int) :Bool:=if d=0 then decide (lo≤f) &&decide (f<lo+2) else vP (J7 s (QW f d lo))
theorem kZ (f d lo:Int) :0< (QW f d lo).ld∧0< (QW f d lo).hd:=by
 unfold QW
 split
 ·exact⟨by assumption,by assumption⟩
 ·split
  ·exact⟨by simp;omega,by simp;omega⟩
  ·exact⟨by decide,by decide⟩
theorem zW {s x:Sp} (h:0<s.ld∧0<s.hd) (hx:0<x.ld∧0<x.hd) :0< (qY s x).ld∧0< (qY s x).hd:=by
 unfold qY;split
 ·exact⟨hx.1,h.2⟩
 ·exact h
theorem K0 {s x:Sp} (h:0<s.ld∧0<s.hd) (hx:0<x.ld∧0<x.hd) :0< (J7 s x).ld∧0< (J7 s x).hd:=by
 have h':=zW h hx
 unfold J7 ko;split
 ·exact⟨h'.1,hx.2⟩
 ·exact h'
theorem Ur:0<W6.ld∧0<W6.hd:=⟨by decide,by decide⟩
theorem EW {s x:Sp} (h:0<s.ld∧0<s.hd) (hx:0<x.ld∧0<x.hd) (hn:vP (J7 s x) =true) :vP s=true:=by
 have h':=zW h hx
 exact jcy h.1 h.2 hx.1 (EV h'.1 h'.2 hx.2 hn)
def Fo (s:Sp) :Prop:=0≤s.ln∧s.hn≤s.hd
theorem Fp {x:Sp} :Fo (J7 W6 x) :=by
 unfold Fo J7 ko qY Wk Ui W6
 constructor
 ·split<;>split<;>simp_all<;>omega
 ·split<;>split<;>simp_all<;>omega
theorem SG {s:Sp} (h:Fo s) :J7 s W6=s:=by
 obtain ⟨h1,h2⟩ :=h
 have e1:Ui s W6=false:=by simp [Ui,W6];omega
 have e2:Wk s W6=false:=by simp [Wk,W6];omega
 have e3:qY s W6=s:=by rw [qY,e1];rfl
 rw [J7,e3,ko,e2];rfl
theorem O4:Fo W6:=⟨by decide,by decide⟩
def Xr (f d lo f' d' lo':Int) :Bool:=KM f d lo&&KM f' d' lo'&&vP (J7 (J7 W6 (QW f d lo)) (QW f' d' lo'))
theorem wi (f lo:Int) :QW f 0 lo=W6:=by simp [QW]
theorem MM {s:Sp} (h:Fo s) (f d lo:Int) :wo s f d lo=J7 s (QW f d lo) :=by
 unfold wo
 split
 ·rename_i h0;subst h0;rw [wi,SG h]
 ·rfl
theorem RB {s:Sp} (h:Fo s) (hn:vP s=true) (f d lo:Int) :Ud s f d lo= (KM f d lo&&vP (J7 s (QW f d lo))) :=by
 unfold Ud KM
 split
 ·rename_i h0;subst h0;rw [wi,SG h,hn];simp
 ·rename_i h0;simp [h0]
theorem RD (f d lo f' d' lo':Int) :Xr f d lo f' d' lo'= (Ud W6 f d lo&&Ud (wo W6 f d lo) f' d' lo') :=by
 have hn0:vP W6=true:=by decide
 rw [MM O4,RB O4 hn0,Xr]
 cases h1:KM f d lo
 ·simp
 ·cases h2:vP (J7 W6 (QW f d lo))
  ·have:vP (J7 (J7 W6 (QW f d lo)) (QW f' d' lo')) =false:=by
    cases h3:vP (J7 (J7 W6 (QW f d lo)) (QW f' d' lo'))
    ·rfl
    ·have:=EW (K0 Ur (kZ _ _ _)) (kZ _ _ _) h3
     rw [h2] at this;cases this
   simp [this]
  ·rw [RB Fp h2]
   simp
abbrev bdV (n d:Int) (c:Bool) :Value:= .agg #[.int .i64 n, .int .i64 d, .bool c]
def bd1 (n d:Int) :Prop:= (-2097152≤n∧n≤2097152)∧-2097152≤d∧d≤2097152
theorem jkf (n d n' d':Int) (c c':Bool) (w:World) (h:bd1 n d) (h':bd1 n' d') :
  Calls Tryz.prog 217 #[bdV n d c,bdV n' d' c'] w fun e w'=>e= .returned (.int .i64 (wt (n*d'- n'*d)))∧Over w w':=by
 obtain ⟨⟨a1,a2⟩,a3,a4⟩ :=h
 obtain ⟨⟨b1,b2⟩,b3,b4⟩ :=h'
 obtain ⟨m1,m1'⟩ :=QO a1 a2 b3 b4
 obtain ⟨m2,m2'⟩ :=QO b1 b2 a3 a4
 refine Jh (m:=17) (Tryz.func217) J J (lb J) ?_;refine S3 ?_;refine aX (fun b1=> ?_);refine N1 ?_;refine aX (fun b2=> ?_);refine N15 ?_;refine a9 (jT Q6 J J (fun w h=> (Kv _ w).mono fun e w' ⟨he,hw⟩ =>⟨he,hw▸Over.refl _⟩)) ?_;refine S3 ?_;refine jM J (.tmp J) ?_
 intro w' hs
 exact⟨rfl,hs.fin⟩
def jay (s:Sp) :List Value:= [.int .i64 s.ln, .int .i64 s.ld, .bool s.lc, .int .i64 s.hn, .int .i64 s.hd, .bool s.hc]
structure bdP (s:Sp) :Prop where
 low:bd1 s.ln s.ld
 high:bd1 s.hn s.hd
theorem ZI (f d lo:Int) (f1: -524288≤f) (f2:f≤524288) (d1: -1048576≤d) (d2:d≤1048576) (l1: -524289≤lo) (l2:lo≤524289) :bdP (QW f d lo) :=by
 unfold QW
 split
 ·exact⟨⟨⟨by simp;omega,by simp;omega⟩,by simp;omega,by simp;omega⟩,⟨by simp;omega,by simp;omega⟩,by simp;omega,by simp;omega⟩
 ·split
  ·exact⟨⟨⟨by simp;omega,by simp;omega⟩,by simp;omega,by simp;omega⟩,⟨by simp;omega,by simp;omega⟩,by simp;omega,by simp;omega⟩
  ·exact⟨⟨⟨by decide,by decide⟩,by decide,by decide⟩,⟨by decide,by decide⟩,by decide,by decide⟩
theorem Wd {s x:Sp} (hs:bdP s) (hx:bdP x) :bdP (qY s x) :=by
 unfold qY;split
 ·exact⟨hx.low,hs.high⟩
 ·exact hs
theorem Wt {s x:Sp} (hs:bdP s) (hx:bdP x) :bdP (ko s x) :=by
 unfold ko;split
 ·exact⟨hs.low,hx.high⟩
 ·exact hs
theorem CM {n:Int} : (wt n<0)↔n<0:=by unfold wt;split<;> (try split) <;>omega
theorem vV (n:Int) : (n<0∧wt n= -1)∨(n=0∧wt n=0)∨(0<n∧wt n=1) :=by unfold wt;split<;> (try split) <;>omega
theorem RC (b:Nat) (s:Sp) (f d lo:Int) (w:World) (hs:bdP s) (f1: -524288≤f) (f2:f≤524288) (d1: -1048576≤d) (d2:d≤1048576) (l1: -524289≤lo) (l2:lo≤524289)
  (hh:w.heap[b]? =some (.cells (jay s).toArray 234 (0,0))) :
  Calls Tryz.prog 261 #[.pointer (some ⟨b,0,none⟩), .int .i64 f, .int .i64 d, .int .i64 lo] w fun e w'=>e= .returned (.bool (Ud s f d lo))∧Wr b w w'∧w'.heap[b]? =some (.cells (jay (wo s f d lo)).toArray 234 (0,0)) :=by
 have hx:=ZI f d lo f1 f2 d1 d2 l1 l2
 obtain ⟨x,ex⟩ :∃x,QW f d lo=x:=⟨_,rfl⟩
 rw [ex] at hx
 have hs1:=Wd hs hx
 have hs2:=Wt hs1 hx
 obtain ⟨x1,x2⟩ :=hx
 obtain ⟨y1,y2⟩ :=hs
 obtain ⟨z1,z2⟩ :=hs1
 obtain ⟨u1,u2⟩ :=hs2
 refine QX (m:=122) (Tryz.func261) J J (lb J) (hh) ?_;refine S10 ?_;refine cZ (fun c1=> ?_) (fun c1=> ?_)
 ·refine S6 ?_;refine cV 19 (fun g1=> ?_) (fun g1=> ?_)
  ·refine S13 ?_;refine jM J (.tmp J) ?_
   intro w' hs
   exact⟨by subst c1;simp [Ud,g1],hs.over.wr,by subst c1;simpa [wo] using hs.cel (k:=0) rfl⟩
  ·refine S9 ?_;refine jM J (.tmp J) ?_
   intro w' hs
   exact⟨by subst c1;simp [Ud];omega,hs.over.wr,by subst c1;simpa [wo] using hs.cel (k:=0) rfl⟩
 ·refine S8 ?_;refine a9 (JU J J (kh J J J)) ?_;refine S5 ?_;refine a9 (JU J J (kh J J J)) ?_;refine S1 ?_;refine aL (fun b1=> ?_);refine N1 ?_;refine aL (fun b2=> ?_);refine N5 ?_;refine uf [] ([.cel b 234 (jay s), .cel b1 232 [.int .i64 x.ln, .int .i64 x.ld, .bool x.lc], .cel b2 232 [.int .i64 x.hn, .int .i64 x.hd, .bool x.hc]]) (kK [0,8,9,10]) (fun L h_t37=> ?_) ?_
  ·refine S5 ?_;refine cZ (fun c2=> ?_) (fun c2=> ?_)
   ·refine S6 ?_;refine a9 (YD J J Om Om) ?_;refine a9 (JU J J (kh J J J)) ?_;refine S4 ?_;refine a9 (YD J J Om Om) ?_;refine a9 (JU J J (kh J J J)) ?_;refine S5 ?_
    exact Jk h_t37 ⟨J,sz⟩ (fun _ h=>h.upto ⟨J,by rw [←ex,QW,if_neg Om,if_pos c2] <;>rfl,by rw [←ex,QW,if_neg Om,if_pos c2] <;>rfl,trivial⟩)
   ·refine S2 ?_
    exact Jk h_t37 ⟨J,sz⟩ (fun _ h=>h.upto ⟨J,by rw [←ex,QW,if_pos Om] <;>rfl,by rw [←ex,QW,if_pos Om] <;>rfl,trivial⟩)
  ·refine v9 ?_;refine uf [] ([.cel b 234 (jay (qY s x)), .cel b1 232 [.int .i64 x.ln, .int .i64 x.ld, .bool x.lc], .cel b2 232 [.int .i64 x.hn, .int .i64 x.hd, .bool x.hc]]) (kK [0,8,10]) (fun L h_t67=> ?_) ?_
   ·refine S2 ?_;refine JS 7 ?_;refine dK 0 ?_;refine dK 1 ?_;refine dK 2 ?_;refine dK 3 ?_;refine dK 4 ?_;refine dZ 5 J (jT vr J J (fun w h=>jkf _ _ _ _ _ _ w (by assumption) (by assumption))) ?_;refine dK 6 ?_;refine JK Kr ?_;refine S1 ?_;refine qt [(67, .bool (Ui s x))] (kK [0,8,9,10]) (fun L h_7=> ?_) ?_
    ·refine S4 ?_;refine cV 59 (fun g2=> ?_) (fun g2=> ?_)
     ·refine S9 ?_
      exact Jk h_7 ⟨vb (by have k:=vV (x.ln*s.ld- s.ln*x.ld);symm;simp [Ui];omega),sz⟩ (u9 rfl)
     ·refine S6 ?_;refine cV 62 (fun g3=> ?_) (fun g3=> ?_)
      ·refine S10 ?_
       exact Jk h_7 ⟨vb (by have k:=vV (x.ln*s.ld- s.ln*x.ld);have e:s.ln*x.ld- x.ln*s.ld=0:=Om;simp [Ui,e]),sz⟩ (u9 rfl)
      ·refine S7 ?_
       exact Jk h_7 ⟨vb (by have k:=vV (x.ln*s.ld- s.ln*x.ld);symm;simp [Ui];omega),sz⟩ (u9 rfl)
    ·refine v9 ?_;refine cZ (fun c3=> ?_) (fun c3=> ?_)
     ·refine S6 ?_;refine OA (k:=0) J J J J (J) (by rfl) Kb.szx J ?_;refine N1 ?_
      exact Jk h_t67 ⟨J,sz⟩ (fun _ h=>h.upto ⟨by rw [qY,if_pos c3] <;>rfl,sz⟩)
     ·refine S2 ?_
      exact Jk h_t67 ⟨J,sz⟩ (fun _ h=>h.upto ⟨by rw [qY,c3] <;>rfl,sz⟩)
   ·refine v9 ?_;refine uf [] ([.cel b 234 (jay (J7 s x)), .cel b1 232 [.int .i64 x.ln, .int .i64 x.ld, .bool x.lc], .cel b2 232 [.int .i64 x.hn, .int .i64 x.hd, .bool x.hc]]) (kK [0,8]) (fun L h_t88=> ?_) ?_
    ·refine S2 ?_;refine JS 7 ?_;refine dK 0 ?_;refine dK 1 ?_;refine dK 2 ?_;refine dK 3 ?_;refine dK 4 ?_;refine dZ 5 J (jT vr J J (fun w h=>jkf _ _ _ _ _ _ w (by assumption) (by assumption))) ?_;refine dK 6 ?_;refine JK Kr ?_;refine S1 ?_;refine qt [(88, .bool (Wk (qY s x) x))] (kK [0,8,10]) (fun L h_10=> ?_) ?_
     ·refine S4 ?_;refine cV 80 (fun g4=> ?_) (fun g4=> ?_)
      ·refine S9 ?_
       exact Jk h_10 ⟨vb (by have k:=vV (x.hn* (qY s x).hd- (qY s x).hn*x.hd);symm;simp [Wk];omega),sz⟩ (u9 rfl)
      ·refine S6 ?_;refine cV 83 (fun g5=> ?_) (fun g5=> ?_)
       ·refine S10 ?_
        exact Jk h_10 ⟨vb (by have k:=vV (x.hn* (qY s x).hd- (qY s x).hn*x.hd);have e: (qY s x).hn*x.hd- x.hn* (qY s x).hd=0:=Om;simp [Wk,e]),sz⟩ (u9 rfl)
       ·refine S7 ?_
        exact Jk h_10 ⟨vb (by have k:=vV (x.hn* (qY s x).hd- (qY s x).hn*x.hd);symm;simp [Wk];omega),sz⟩ (u9 rfl)
     ·refine v9 ?_;refine cZ (fun c4=> ?_) (fun c4=> ?_)
      ·refine S6 ?_;refine OE (k:=0) J J J J (J) (by rfl) Kb.szx J ?_;refine N1 ?_
       exact Jk h_t88 ⟨J,sz⟩ (fun _ h=>h.upto ⟨by rw [J7,ko,if_pos c4] <;>rfl,sz⟩)
      ·refine S2 ?_
       exact Jk h_t88 ⟨J,sz⟩ (fun _ h=>h.upto ⟨by rw [J7,ko,c4] <;>rfl,sz⟩)
    ·refine V2 ?_;refine JS 10 ?_;refine dK 0 ?_;refine dK 1 ?_;refine dK 2 ?_;refine dK 3 ?_;refine dK 4 ?_;refine dK 5 ?_;refine dK 6 ?_;refine dK 7 ?_;refine dZ 8 J (jT vr J J (fun w h=>jkf _ _ _ _ _ _ w (by assumption) (by assumption))) ?_;refine dK 9 ?_;refine JK Kr ?_;refine S6 ?_;refine cV 104 (fun g6=> ?_) (fun g6=> ?_)
     ·refine S20 ?_;refine jM J (.tmp J) ?_
      intro w' hs
      have k:=vV ((J7 s x).ln* (J7 s x).hd- (J7 s x).hn* (J7 s x).ld)
      exact⟨QH (by rw [Ud,if_neg c1,ex];symm;simp [vP];omega),hs.over.wr,by rw [wo,if_neg c1,ex];exact hs.cel (k:=0) rfl⟩
     ·refine S6 ?_;refine cV 107 (fun g7=> ?_) (fun g7=> ?_)
      ·refine S14 ?_;refine cV 114 (fun g8=> ?_) (fun g8=> ?_)
       ·refine S16 ?_;refine jM J (.tmp J) ?_
        intro w' hs
        have k:=vV ((J7 s x).ln* (J7 s x).hd- (J7 s x).hn* (J7 s x).ld)
        have e: (J7 s x).ln* (J7 s x).hd- (J7 s x).hn* (J7 s x).ld=0:=Om
        exact⟨QH (by rw [Ud,if_neg c1,ex];simp [vP,e, *]),hs.over.wr,by rw [wo,if_neg c1,ex];exact hs.cel (k:=0) rfl⟩
       ·refine S11 ?_;refine jM J (.tmp J) ?_
        intro w' hs
        have k:=vV ((J7 s x).ln* (J7 s x).hd- (J7 s x).hn* (J7 s x).ld)
        have e: (J7 s x).ln* (J7 s x).hd- (J7 s x).hn* (J7 s x).ld=0:=Om
        exact⟨QH (by rw [Ud,if_neg c1,ex];simp [vP,e, *]),hs.over.wr,by rw [wo,if_neg c1,ex];exact hs.cel (k:=0) rfl⟩
      ·refine S20 ?_;refine jM J (.tmp J) ?_
       intro w' hs
       have k:=vV ((J7 s x).ln* (J7 s x).hd- (J7 s x).hn* (J7 s x).ld)
       exact⟨QH (by rw [Ud,if_neg c1,ex];symm;simp [vP];omega),hs.over.wr,by rw [wo,if_neg c1,ex];exact hs.cel (k:=0) rfl⟩
abbrev jf6 (s:Sp) :Value:= .agg #[.int .i64 s.ln, .int .i64 s.ld, .bool s.lc, .int .i64 s.hn, .int .i64 s.hd, .bool s.hc]
theorem O3:bdP W6:=⟨⟨by decide,by decide⟩,by decide,by decide⟩
theorem jbl {s:Sp} {f d lo:Int} (hs:bdP s) (hx:bdP (QW f d lo)) :bdP (wo s f d lo) :=by
 unfold wo;split
 ·exact hs
 ·exact Wt (Wd hs hx) hx
theorem B7 (ax ay bx b_y px_ py_:Int) (w:World) (ha:wR ax ay=true) (hb:wR bx b_y=true) (hp:wR px_ py_=true) :
  Calls Tryz.prog 214 #[uS ax ay,uS bx b_y,uS px_ py_] w fun e w'=>e= .returned (.tuple #[jf6 (if Ud W6 (2*ax) (2* (bx- ax)) (2*px_- 1) =true then wo (wo W6 (2*ax) (2* (bx- ax)) (2*px_- 1)) (2*ay) (2* (b_y- ay)) (2*py_- 1) else wo W6 (2*ax) (2* (bx- ax)) (2*px_- 1)),
   .bool (Ud W6 (2*ax) (2* (bx- ax)) (2*px_- 1) &&Ud (wo W6 (2*ax) (2* (bx- ax)) (2*px_- 1)) (2*ay) (2* (b_y- ay)) (2*py_- 1))])∧Over w w':=by
 simp [wR,xZ] at ha hb hp
 have hs1:=jbl (f:=2*ax) (d:=2* (bx- ax)) (lo:=2*px_- 1) O3 (ZI _ _ _ Om Om Om Om Om Om)
 refine Jh (m:=45) (Tryz.func214) J J (lb J) ?_;refine S3 ?_;refine aX (fun b1=> ?_);refine N1 ?_;refine aX (fun b2=> ?_);refine N1 ?_;refine aX (fun b3=> ?_);refine N1 ?_;refine aL (fun b4=> ?_);refine N4 ?_;refine a9 (JU J J (kh J J J)) ?_;refine a9 (JU J J (kh J J J)) ?_;refine a9 (JU J J (Ym J J)) ?_;refine S1 ?_;refine aL (fun b5=> ?_);refine N4 ?_;refine jhk (Rs':= [.cel b1 56 [.int .i64 ax, .int .i64 ay], .cel b2 56 [.int .i64 bx, .int .i64 b_y], .cel b3 56 [.int .i64 px_, .int .i64 py_], .cel b4 234 [.int .i64 0, .int .i64 0, .bool false, .int .i64 0, .int .i64 0, .bool false], .cel b5 234 (jay W6)]) (fun _ h=>h) ?_;refine S15 ?_;refine QF (k:=4) wH J J J Dc J (fun w h=>RC b5 W6 (2*ax) (2* (bx- ax)) (2*px_- 1) w O3 Om Om Om Om Om Om (h.cel (k:=4) J)) ?_;refine N1 ?_;refine cV 27 (fun g1=> ?_) (fun g1=> ?_)
 ·refine S27 ?_;refine QF (k:=4) wH J J J Dc J (fun w h=>RC b5 (wo W6 (2*ax) (2* (bx- ax)) (2*px_- 1)) (2*ay) (2* (b_y- ay)) (2*py_- 1) w hs1 Om Om Om Om Om Om (h.cel (k:=4) J)) ?_;refine N12 ?_;refine qv J (qh (k:=3) J Vo J J) (.tmp J) ?_
  intro w' hs
  exact⟨by rw [if_pos g1,g1,jix];rfl,hs.fin⟩
 ·refine S26 ?_;refine qv J (qh (k:=3) J Vo J J) (.tmp J) ?_
  intro w' hs
  exact⟨by rw [if_neg (by rw [g1];simp),g1,jiC];rfl,hs.fin⟩
abbrev spV (s:Sp) :Value:= .agg #[.int .i64 s.ln, .int .i64 s.ld, .int .i64 s.hn, .int .i64 s.hd, .bool s.lc, .bool s.hc]
def spC (s:Sp) :List Value:= [.int .i64 s.ln, .int .i64 s.ld, .int .i64 s.hn, .int .i64 s.hd, .bool s.lc, .bool s.hc]
theorem H1 (f d lo hi:Int) (w:World) (hh:hi=lo+2) (f1: -1048576≤f) (f2:f≤1048576) (d1: -1048576≤d) (d2:d≤1048576) (l1: -1048576≤lo) (l2:lo≤1048576) :
  Calls Tryz.prog 292 #[.int .i64 f, .int .i64 d, .int .i64 lo, .int .i64 hi] w fun e w'=>e= .returned (.tuple #[spV (QW f d lo), .bool (KM f d lo)])∧Over w w':=by
 subst hh
 have tv:∀ {s s':Sp} {a a':Bool},s'=s→a'=a→Ending.returned (.tuple #[spV s, .bool a]) =Ending.returned (.tuple #[spV s', .bool a']) :=fun h1 h2=>by rw [h1,h2]
 refine Jh (m:=45) (Tryz.func292) J J (lb J) ?_;refine S3 ?_;refine aL (fun b1=> ?_);refine N10 ?_;refine cZ (fun c1=> ?_) (fun c1=> ?_)
 ·refine S10 ?_;refine a9 (JU J J (UA J J J J J)) ?_;refine S7 ?_;refine qv J (qh (k:=0) J qr J J) (.tmp J) ?_
  intro w' hs
  exact⟨tv (s:=⟨lo- f,d,true,lo+2- f,d,false⟩) (by rw [QW,if_pos c1]) (by simp [KM];omega),hs.fin⟩
 ·refine S6 ?_;refine cZ (fun c2=> ?_) (fun c2=> ?_)
  ·refine S6 ?_;refine a9 (YD J J Om Om) ?_;refine S4 ?_;refine a9 (YD J J Om Om) ?_;refine a9 (JU J J (UB J J J J J)) ?_;refine S7 ?_;refine qv J (qh (k:=0) J qr J J) (.tmp J) ?_
   intro w' hs
   exact⟨tv (s:=⟨f- (lo+2),-d,false,f- lo,-d,true⟩) (by rw [QW,if_neg Om,if_pos c2];congr 1;omega) (by simp [KM];omega),hs.fin⟩
  ·refine S5 ?_;refine a9 (JU J J (Vt J J J J J J)) ?_;refine S4 ?_;refine cV 40 (fun g1=> ?_) (fun g1=> ?_)
   ·refine S12 ?_;refine qv J (qh (k:=0) J qr J J) (.tmp J) ?_
    intro w' hs
    exact⟨tv (s:=W6) (by rw [QW,if_neg Om,if_neg Om]) (by simp [KM,show d=0 by omega,g1]),hs.fin⟩
   ·refine S9 ?_;refine qv J (qh (k:=0) J qr J J) (.tmp J) ?_
    intro w' hs
    exact⟨tv (s:=W6) (by rw [QW,if_neg Om,if_neg Om]) (by simp [KM,show d=0 by omega];omega),hs.fin⟩
theorem Fw {a b c d:Int} (h:bd1 a b) (k:bd1 c d) : (-4398046511104≤a*d∧a*d≤4398046511104)∧(-4398046511104≤c*b∧c*b≤4398046511104) :=by
 obtain ⟨⟨a1,a2⟩,a3,a4⟩ :=h
 obtain ⟨⟨b1,b2⟩,b3,b4⟩ :=k
 exact⟨QO a1 a2 b3 b4,QO b1 b2 a3 a4⟩
theorem H4 (s x:Sp) (w:World) (hs:bdP s) (hx:bdP x) :
  Calls Tryz.prog 293 #[spV s,spV x] w fun e w'=>e= .returned (spV (J7 s x))∧Over w w':=by
 have hs1:=Wd hs hx
 obtain ⟨m1,m2⟩ :=Fw hs.low hx.low
 obtain ⟨m3,m4⟩ :=Fw hs1.high hx.high
 refine Jh (m:=70) (Tryz.func293) J J (lb J) ?_;refine S3 ?_;refine aX (fun b1=> ?_);refine N1 ?_;refine aX (fun b2=> ?_);refine N1 ?_;refine aL (fun b3=> ?_);refine N16 ?_;refine uf [] ([.cel b1 283 (spC (qY s x)), .cel b2 283 (spC x), .cel b3 283 [.int .i64 0, .int .i64 0, .int .i64 0, .int .i64 0, .bool false, .bool false]]) (kK [2,3,4]) (fun L h_t28=> ?_) ?_
 ·refine qt [(28, .bool (Ui s x))] (kK [2,3,4]) (fun L h_2=> ?_) ?_
  ·refine S4 ?_;refine cV 20 (fun g1=> ?_) (fun g1=> ?_)
   ·refine S9 ?_
    exact Jk h_2 ⟨vb (by symm;simp [Ui];omega),sz⟩ (u9 J)
   ·refine S6 ?_;refine cV 23 (fun g2=> ?_) (fun g2=> ?_)
    ·refine S10 ?_
     exact Jk h_2 ⟨vb (by simp [Ui,g2]),sz⟩ (u9 J)
    ·refine S7 ?_
     exact Jk h_2 ⟨vb (by symm;simp [Ui];omega),sz⟩ (u9 J)
  ·refine v9 ?_;refine cZ (fun c1=> ?_) (fun c1=> ?_)
   ·refine S6 ?_;refine Oz (k:=0) J J J J (J) (by rfl) kS.szx J ?_;refine N7 ?_;refine OB (k:=0) J J J J (J) (by rfl) kS.szx J ?_;refine N6 ?_;refine OF (k:=0) J J J J (J) (by rfl) Yb.szx J ?_;refine N1 ?_
    exact Jk h_t28 ⟨J,sz⟩ (fun _ h=>h.upto ⟨by rw [qY,if_pos c1] <;>rfl,sz⟩)
   ·refine S2 ?_
    exact Jk h_t28 ⟨J,sz⟩ (fun _ h=>h.upto ⟨by rw [qY,c1] <;>rfl,sz⟩)
 ·refine V15 ?_;refine uf [] ([.cel b1 283 (spC (J7 s x)), .cel b2 283 (spC x), .cel b3 283 [.int .i64 0, .int .i64 0, .int .i64 0, .int .i64 0, .bool false, .bool false]]) (kK [2,4]) (fun L h_t59=> ?_) ?_
  ·refine qt [(59, .bool (Wk (qY s x) x))] (kK [2,3,4]) (fun L h_7=> ?_) ?_
   ·refine S4 ?_;refine cV 51 (fun g3=> ?_) (fun g3=> ?_)
    ·refine S9 ?_
     exact Jk h_7 ⟨vb (by symm;simp [Wk];omega),sz⟩ (u9 J)
    ·refine S6 ?_;refine cV 54 (fun g4=> ?_) (fun g4=> ?_)
     ·refine S10 ?_
      exact Jk h_7 ⟨vb (by simp [Wk,g4]),sz⟩ (u9 J)
     ·refine S7 ?_
      exact Jk h_7 ⟨vb (by symm;simp [Wk];omega),sz⟩ (u9 J)
   ·refine v9 ?_;refine cZ (fun c2=> ?_) (fun c2=> ?_)
    ·refine S6 ?_;refine OC (k:=0) J J J J (J) (by rfl) kS.szx J ?_;refine N7 ?_;refine OD (k:=0) J J J J (J) (by rfl) kS.szx J ?_;refine N6 ?_;refine OG (k:=0) J J J J (J) (by rfl) Yb.szx J ?_;refine N1 ?_
     exact Jk h_t59 ⟨J,sz⟩ (fun _ h=>h.upto ⟨by rw [J7,ko,if_pos c2] <;>rfl,sz⟩)
    ·refine S2 ?_
     exact Jk h_t59 ⟨J,sz⟩ (fun _ h=>h.upto ⟨by rw [J7,ko,c2] <;>rfl,sz⟩)
  ·refine V7 ?_;refine jM J (qh (k:=2) J qr J J) ?_
   intro w' hs
   exact⟨rfl,hs.fin⟩
theorem BM (ax ay bx b_y px_ py_:Int) (w:World) (ha:wR ax ay=true) (hb:wR bx b_y=true) (hp:wR px_ py_=true) :
  Calls Tryz.prog 273 #[uS ax ay,uS bx b_y,uS px_ py_] w fun e w'=>e= .returned (.tuple #[spV (if(KM (2*ax) (2* (bx- ax)) (2*px_- 1) &&KM (2*ay) (2* (b_y- ay)) (2*py_- 1)) =true then J7 (J7 W6 (QW (2*ax) (2* (bx- ax)) (2*px_- 1))) (QW (2*ay) (2* (b_y- ay)) (2*py_- 1)) else W6),
   .bool (Xr (2*ax) (2* (bx- ax)) (2*px_- 1) (2*ay) (2* (b_y- ay)) (2*py_- 1))])∧Over w w':=by
 simp [wR,xZ] at ha hb hp
 have hx:=ZI (2*ax) (2* (bx- ax)) (2*px_- 1) Om Om Om Om Om Om
 have hy:=ZI (2*ay) (2* (b_y- ay)) (2*py_- 1) Om Om Om Om Om Om
 have h1:=Wt (Wd O3 hx) hx
 obtain ⟨sx,ex⟩ :∃s,QW (2*ax) (2* (bx- ax)) (2*px_- 1) =s:=⟨_,rfl⟩
 obtain ⟨sy,ey⟩ :∃s,QW (2*ay) (2* (b_y- ay)) (2*py_- 1) =s:=⟨_,rfl⟩
 obtain ⟨ix,jx⟩ :∃s,KM (2*ax) (2* (bx- ax)) (2*px_- 1) =s:=⟨_,rfl⟩
 obtain ⟨iy,jy⟩ :∃s,KM (2*ay) (2* (b_y- ay)) (2*py_- 1) =s:=⟨_,rfl⟩
 unfold Xr
 rw [ex] at hx h1
 rw [ey] at hy
 rw [ex,ey,jx,jy]
 change bdP (J7 W6 sx) at h1
 obtain ⟨s2,e2⟩ :∃s,J7 (J7 W6 sx) sy=s:=⟨_,rfl⟩
 rw [e2]
 have h2:bdP (J7 (J7 W6 sx) sy) :=Wt (Wd h1 hy) hy
 rw [e2] at h2
 obtain ⟨m1,m2⟩ :=Fw h2.low h2.high
 have hA:∀w,Calls Tryz.prog 292 #[.int .i64 (2*ax), .int .i64 (2* (bx- ax)), .int .i64 (2*px_- 1), .int .i64 (2*px_+1)] w fun e w'=>e= .returned (.tuple #[spV sx, .bool ix])∧Over w w':=fun w=>ex▸jx▸H1 _ _ _ _ w Om Om Om Om Om Om Om
 have hB:∀w,Calls Tryz.prog 292 #[.int .i64 (2*ay), .int .i64 (2* (b_y- ay)), .int .i64 (2*py_- 1), .int .i64 (2*py_+1)] w fun e w'=>e= .returned (.tuple #[spV sy, .bool iy])∧Over w w':=fun w=>ey▸jy▸H1 _ _ _ _ w Om Om Om Om Om Om Om
 have hC:∀w,Calls Tryz.prog 293 #[spV (J7 W6 sx),spV sy] w fun e w'=>e= .returned (spV s2)∧Over w w':=fun w=>e2▸H4 _ _ w h1 hy
 refine Jh (m:=95) (Tryz.func273) J J (lb J) ?_;refine S3 ?_;refine aX (fun b1=> ?_);refine N1 ?_;refine aX (fun b2=> ?_);refine N1 ?_;refine aX (fun b3=> ?_);refine N1 ?_;refine aL (fun b4=> ?_);refine N4 ?_;refine a9 (JU J J (Vt J J J J J J)) ?_;refine S1 ?_;refine aL (fun b5=> ?_);refine N22 ?_;refine a9 (jT Y4 J J (fun w h=>hA w)) ?_;refine S4 ?_;refine aL (fun b6=> ?_);refine N23 ?_;refine a9 (jT Y4 J J (fun w h=>hB w)) ?_;refine S4 ?_;refine aL (fun b7=> ?_);refine N5 ?_;refine qt [(62, .bool (!(ix&&iy)))] (kK [6,7,8,9,11]) (fun L h_4=> ?_) ?_
 ·refine S4 ?_;refine cV 59 (fun g1=> ?_) (fun g1=> ?_)
  ·refine S4 ?_
   exact Jk h_4 ⟨vb (by simp [g1]),sz⟩ (u9 J)
  ·refine S6 ?_
   exact Jk h_4 ⟨vb (by simp [g1]),sz⟩ (u9 J)
 ·refine v9 ?_;refine cZ (fun c1=> ?_) (fun c1=> ?_)
  ·refine S9 ?_;refine qv J (qh (k:=3) J qr J J) (.tmp J) ?_
   intro w' hs
   have q: ((ix&&iy) =true) =False:= (by simp at c1;simp;exact c1)
   exact⟨by simp only [q,if_false];simp at c1;cases ix<;>simp_all [W6],hs.fin⟩
  ·have q: (ix&&iy) =true:= (by simpa using c1)
   refine S4 ?_;refine JS 5 ?_;refine dK 0 ?_;refine dK 1 ?_;refine dZ 2 J (jT Y5 J J (fun w h=>H4 W6 sx w O3 hx)) ?_;refine dK 3 ?_;refine dZ 4 J (jT Y5 J J (fun w h=>hC w)) ?_;refine vg J Kr J ?_;refine S1 ?_;refine yn Kr ?_;refine S18 ?_;refine Qx 17 [3] ?_;refine dK 0 ?_;refine dK 1 ?_;refine dK 2 ?_;refine dK 3 ?_;refine cV 83 (fun g2=> ?_) (fun g2=> ?_)
   ·refine fK 4 ?_;refine fK 5 ?_;refine fK 6 ?_;refine Md (i:=7) J Kr Kr Kr [] Kr (fun _ _ _ h=>h) J J J J J Dc (uw [3] J) ?_;refine Md (i:=8) J Kr Kr Kr [] Kr (fun _ _ _ h=>h) J J J J J Dc (uw [3] J) ?_;refine fK 9 ?_;refine fK 10 ?_;refine Md (i:=11) J Kr Kr Kr [] Kr (fun _ _ _ h=>h) J J J J J Dc (uw [3] J) ?_;refine Md (i:=12) J Kr Kr Kr [] Kr (fun _ _ _ h=>h) J J J J J Dc (uw [3] J) ?_;refine fK 13 ?_;refine dK 14 ?_;refine qe (i:=15) J Dc Kr J ?_;refine S1 ?_;refine JO (uw [3] J) ?_;refine dK 16 ?_;refine JK Kr ?_;refine S2 ?_;refine qv J (qh (k:=3) J qr J J) (.tmp J) ?_
    intro w' hs
    exact⟨by rw [if_pos q,q,jix,show vP s2=true from(by simp [vP];omega)],hs.fin⟩
   ·refine eK 4 ?_;refine eK 5 ?_;refine eK 6 ?_;refine cV 86 (fun g3=> ?_) (fun g3=> ?_)
    ·refine eK 7 ?_;refine eK 8 ?_;refine eK 9 ?_;refine eK 10 ?_;refine cV 90 (fun g4=> ?_) (fun g4=> ?_)
     ·refine eK 11 ?_;refine eK 12 ?_;refine eK 13 ?_;refine dK 14 ?_;refine qe (i:=15) J Dc Kr J ?_;refine S1 ?_;refine JO (uw [3] J) ?_;refine dK 16 ?_;refine JK Kr ?_;refine S2 ?_;refine qv J (qh (k:=3) J qr J J) (.tmp J) ?_
      intro w' hs
      exact⟨by rw [if_pos q,q,jix,show vP s2=s2.hc from(by simp [vP, *])],hs.fin⟩
     ·refine fK 11 ?_;refine fK 12 ?_;refine eK 13 ?_;refine dK 14 ?_;refine qe (i:=15) J Dc Kr J ?_;refine S1 ?_;refine JO (uw [3] J) ?_;refine dK 16 ?_;refine JK Kr ?_;refine S2 ?_;refine qv J (qh (k:=3) J qr J J) (.tmp J) ?_
      intro w' hs
      exact⟨by rw [if_pos q,q,jix,show vP s2=false from(by simp [vP, *])],hs.fin⟩
    ·refine fK 7 ?_;refine fK 8 ?_;refine eK 9 ?_;refine eK 10 ?_;refine fK 11 ?_;refine fK 12 ?_;refine eK 13 ?_;refine dK 14 ?_;refine qe (i:=15) J Dc Kr J ?_;refine S1 ?_;refine JO (uw [3] J) ?_;refine dK 16 ?_;refine JK Kr ?_;refine S2 ?_;refine qv J (qh (k:=3) J qr J J) (.tmp J) ?_
     intro w' hs
     exact⟨by rw [if_pos q,q,jix,show vP s2=false from(by simp [vP];omega)],hs.fin⟩
end Go.Proofs.YtpncbbcmoiiipaaGreat
