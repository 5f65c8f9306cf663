import Derived.Test.YtjbahemkhphndaaGreatNMem
import Derived.Test.YtjbahemkhphndaaGreatNL2
set_option linter.unusedVariables false
set_option linter.unusedSimpArgs false
namespace Go.Proofs.YtjbahemkhphndaaGreat
open Go Go.RowKit
set_option maxRecDepth 100000
set_option maxHeartbeats 4000000
structure Sp where
 ln:Int
 ld:Int
 lc:Bool
 hn:Int
 hd:Int
 hc:Bool
def ux:Sp:=⟨0,1,true,1,1,true⟩
def Vh(s:Sp):Bool:=decide (s.ln*s.hd-s.hn*s.ld<0)||(decide (s.ln*s.hd-s.hn*s.ld=0) &&s.lc&&s.hc)
def UQ(s x:Sp):Bool:=decide (s.ln*x.ld-x.ln*s.ld<0)||(decide (s.ln*x.ld-x.ln*s.ld=0) && !x.lc)
def Wx(s x:Sp):Bool:=decide (s.hn*x.hd-x.hn*s.hd>0)||(decide (s.hn*x.hd-x.hn*s.hd=0) && !x.hc)
def q5(s x:Sp):Sp:=if UQ s x=true then {s with ln:=x.ln,ld:=x.ld,lc:=x.lc} else s
def kH(s x:Sp):Sp:=if Wx s x=true then {s with hn:=x.hn,hd:=x.hd,hc:=x.hc} else s
def J7(s x:Sp):Sp:=kH (q5 s x) x
theorem vG{a b c d e f:Int}(hd:0<d)(hb:0<b)(hf:0<f)(h1:a*d<=c*b)(h2:c*f<=e*d):a*f<=e*b:=by
 have p1:=jlO h1 (jmw hf);have p2:=jlO h2 (jmw hb)
 have e1:a*d*f=a*f*d:=by rw[jmM,jmn d f,<-jmM]
 have e2:c*b*f=c*f*b:=by rw[jmM,jmn b f,<-jmM]
 have e3:e*d*b=e*b*d:=by rw[jmM,jmn d b,<-jmM]
 rw[e1,e2] at p1;rw[e3] at p2;exact jmk (jmN p1 p2) hd
theorem wD{a b c d e f:Int}(hd:0<d)(hb:0<b)(hf:0<f)(h1:a*d<c*b)(h2:c*f<=e*d):a*f<e*b:=by
 have p1:=jl6 h1 hf;have p2:=jlO h2 (jmw hb)
 have e1:a*d*f=a*f*d:=by rw[jmM,jmn d f,<-jmM]
 have e2:c*b*f=c*f*b:=by rw[jmM,jmn b f,<-jmM]
 have e3:e*d*b=e*b*d:=by rw[jmM,jmn d b,<-jmM]
 rw[e1,e2] at p1;rw[e3] at p2;exact jmm (Int.lt_of_lt_of_le p1 p2) (jmw hd)
theorem vj{a b c d e f:Int}(hd:0<d)(hb:0<b)(hf:0<f)(h1:a*d<=c*b)(h2:c*f<e*d):a*f<e*b:=by
 have p1:=jlO h1 (jmw hf);have p2:=jl6 h2 hb
 have e1:a*d*f=a*f*d:=by rw[jmM,jmn d f,<-jmM]
 have e2:c*b*f=c*f*b:=by rw[jmM,jmn b f,<-jmM]
 have e3:e*d*b=e*b*d:=by rw[jmM,jmn d b,<-jmM]
 rw[e1,e2] at p1;rw[e3] at p2;exact jmm (Int.lt_of_le_of_lt p1 p2) (jmw hd)
theorem jfj{s x:Sp}(h1:0<s.ld)(h2:0<s.hd)(h3:0<x.ld)(h:Vh (q5 s x)=true):Vh s=true:=by
 unfold q5 at h;split at h
 case isFalse=>exact h
 case isTrue hu=>
  simp only[Vh,UQ,jml,jlK,decide_eq_true_eq,jmo] at*;obtain⟨sln,sld,slc,shn,shd,shc⟩:=s;obtain⟨xln,xld,xlc,xhn,xhd,xhc⟩:=x;simp only at*;rcases hu with hu|⟨hu,hx⟩
  .left;have:sln*shd<shn*sld:=by
    rcases h with h|h
    .exact vj (d:=xld) (c:=xln) h3 h1 h2 Om Om
    .exact wD (d:=xld) (c:=xln) h3 h1 h2 Om Om
   omega
  .rcases h with h|⟨⟨h,h'⟩,_⟩
   .left;have:sln*shd<shn*sld:=vj (d:=xld) (c:=xln) h3 h1 h2 Om Om
    omega
   .rw[hx] at h';cases h'
theorem jcu{s x:Sp}(h1:0<s.ld)(h2:0<s.hd)(h3:0<x.hd)(h:Vh (kH s x)=true):Vh s=true:=by
 unfold kH at h;split at h
 case isFalse=>exact h
 case isTrue hu=>
  simp only[Vh,Wx,jml,jlK,decide_eq_true_eq,jmo] at*;obtain⟨sln,sld,slc,shn,shd,shc⟩:=s;obtain⟨xln,xld,xlc,xhn,xhd,xhc⟩:=x;simp only at*;rcases hu with hu|⟨hu,hx⟩
  .left;have:sln*shd<shn*sld:=by
    rcases h with h|h
    .exact wD (d:=xhd) (c:=xhn) h3 h1 h2 Om Om
    .exact vj (d:=xhd) (c:=xhn) h3 h1 h2 Om Om
   omega
  .rcases h with h|⟨⟨h,_⟩,h'⟩
   .left;have:sln*shd<shn*sld:=wD (d:=xhd) (c:=xhn) h3 h1 h2 Om Om
    omega
   .rw[hx] at h';cases h'
def Q7(f d lo:Int):Sp:=if 0<d then⟨lo-f,d,true,lo+2-f,d,false⟩ else if d<0 then⟨f-lo-2,-d,false,f-lo,-d,true⟩ else ux
def va(f d lo:Int):Bool:= !decide (d=0)||(decide (lo<=f) &&decide (f<lo+2))
def wN(s:Sp)(f d lo:Int):Sp:=if d=0 then s else J7 s (Q7 f d lo)
def UM(s:Sp)(f d lo:Int):Bool:=if d=0 then decide (lo<=f) &&decide (f<lo+2) else Vh (J7 s (Q7 f d lo))
theorem Kx(f d lo:Int):0<(Q7 f d lo).ld/\0<(Q7 f d lo).hd:=by
 unfold Q7;split
 .exact⟨by assumption,by assumption⟩
 .split
  .exact⟨by simp;omega,by simp;omega⟩
  .exact⟨by decide,by decide⟩
theorem xa{s x:Sp}(h:0<s.ld/\0<s.hd)(hx:0<x.ld/\0<x.hd):0<(q5 s x).ld/\0<(q5 s x).hd:=by
 unfold q5;split
 .exact⟨hx.1,h.2⟩
 .exact h
theorem vq{s x:Sp}(h:0<s.ld/\0<s.hd)(hx:0<x.ld/\0<x.hd):0<(J7 s x).ld/\0<(J7 s x).hd:=by
 have h':=xa h hx;unfold J7 kH;split
 .exact⟨h'.1,hx.2⟩
 .exact h'
theorem U2:0<ux.ld/\0<ux.hd:=⟨by decide,by decide⟩
theorem jcv{s x:Sp}(h:0<s.ld/\0<s.hd)(hx:0<x.ld/\0<x.hd)(hn:Vh (J7 s x)=true):Vh s=true:=by
 have h':=xa h hx;exact jfj h.1 h.2 hx.1 (jcu h'.1 h'.2 hx.2 hn)
def I7(s:Sp):Prop:=0<=s.ln/\s.hn<=s.hd
theorem I8{x:Sp}:I7 (J7 ux x):=by
 unfold I7 J7 kH q5 Wx UQ ux;constructor
 .split<;>split<;>simp_all<;>omega
 .split<;>split<;>simp_all<;>omega
theorem NW{s:Sp}(h:I7 s):J7 s ux=s:=by
 obtain⟨h1,h2⟩:=h;have e1:UQ s ux=false:=by simp[UQ,ux];omega
 have e2:Wx s ux=false:=by simp[Wx,ux];omega
 have e3:q5 s ux=s:=by rw[q5,e1];rfl
 rw[J7,e3,kH,e2];rfl
theorem DF:I7 ux:=⟨by decide,by decide⟩
def G1(f d lo f' d' lo':Int):Bool:=va f d lo&&va f' d' lo'&&Vh (J7 (J7 ux (Q7 f d lo)) (Q7 f' d' lo'))
theorem wH(f lo:Int):Q7 f 0 lo=ux:=by simp[Q7]
theorem Bl{s:Sp}(h:I7 s)(f d lo:Int):wN s f d lo=J7 s (Q7 f d lo):=by
 unfold wN;split
 .rename_i h0;subst h0;rw[wH,NW h]
 .rfl
theorem TL{s:Sp}(h:I7 s)(hn:Vh s=true)(f d lo:Int):UM s f d lo=(va f d lo&&Vh (J7 s (Q7 f d lo))):=by
 unfold UM va;split
 .rename_i h0;subst h0;rw[wH,NW h,hn];simp
 .rename_i h0;simp[h0]
theorem TN(f d lo f' d' lo':Int):G1 f d lo f' d' lo'=(UM ux f d lo&&UM (wN ux f d lo) f' d' lo'):=by
 have hn0:Vh ux=true:=by decide
 rw[Bl DF,TL DF hn0,G1];cases h1:va f d lo
 .simp
 .cases h2:Vh (J7 ux (Q7 f d lo))
  .have:Vh (J7 (J7 ux (Q7 f d lo)) (Q7 f' d' lo'))=false:=by
    cases h3:Vh (J7 (J7 ux (Q7 f d lo)) (Q7 f' d' lo'))
    .rfl
    .have:=jcv (vq U2 (Kx _ _ _)) (Kx _ _ _) h3;rw[h2] at this;cases this
   simp[this]
  .rw[TL I8 h2];simp
abbrev bdV(n d:Int)(c:Bool):Value:=.agg #[.int .i64 n,.int .i64 d,.bool c]
def bd1(n d:Int):Prop:=(-2097152<=n/\n<=2097152)∧-2097152<=d/\d<=2097152
theorem wB(n d n' d':Int)(c c':Bool)(w:World)(h:bd1 n d)(h':bd1 n' d'):
  Calls Tryz.prog 137 #[bdV n d c,bdV n' d' c'] w λe w'=>e=.returned (.int .i64 (wP (n*d'-n'*d)))/\Over w w':=by
 obtain⟨⟨a1,a2⟩,a3,a4⟩:=h;obtain⟨⟨b1,b2⟩,b3,b4⟩:=h';obtain⟨m1,m1'⟩:=QN a1 a2 b3 b4;obtain⟨m2,m2'⟩:=QN b1 b2 a3 a4;refine Jm (m:=17) (Tryz.func137) J J (lb J) ?_;refine S3 ?_;refine aX (λb1=>?_);refine N1 ?_;refine aX (λb2=>?_);refine N15 ?_;refine a9 (jT kv J J (λw h=>(KX _ w).mono λe w' ⟨he,hw⟩=>⟨he,hw▸Over.refl _⟩)) ?_;refine S3 ?_;refine jK J (.tmp J) ?_;intro w' hs;exact⟨rfl,hs.fin⟩
def jc5(s:Sp):List Value:=[.int .i64 s.ln,.int .i64 s.ld,.bool s.lc,.int .i64 s.hn,.int .i64 s.hd,.bool s.hc]
structure bdP (s:Sp):Prop where
 low:bd1 s.ln s.ld
 high:bd1 s.hn s.hd
theorem xY(f d lo:Int)(f1: -524288<=f)(f2:f<=524288)(d1: -1048576<=d)(d2:d<=1048576)(l1: -524289<=lo)(l2:lo<=524289):bdP (Q7 f d lo):=by
 unfold Q7;split
 .exact⟨⟨⟨by simp;omega,by simp;omega⟩,by simp;omega,by simp;omega⟩,⟨by simp;omega,by simp;omega⟩,by simp;omega,by simp;omega⟩
 .split
  .exact⟨⟨⟨by simp;omega,by simp;omega⟩,by simp;omega,by simp;omega⟩,⟨by simp;omega,by simp;omega⟩,by simp;omega,by simp;omega⟩
  .exact⟨⟨⟨by decide,by decide⟩,by decide,by decide⟩,⟨by decide,by decide⟩,by decide,by decide⟩
theorem Wq{s x:Sp}(hs:bdP s)(hx:bdP x):bdP (q5 s x):=by
 unfold q5;split
 .exact⟨hx.low,hs.high⟩
 .exact hs
theorem WH{s x:Sp}(hs:bdP s)(hx:bdP x):bdP (kH s x):=by
 unfold kH;split
 .exact⟨hs.low,hx.high⟩
 .exact hs
theorem jbj{n:Int}:(wP n<0)↔n<0:=by unfold wP;split<;>(try split)<;>omega
theorem Vn(n:Int):(n<0/\wP n= -1)\/(n=0/\wP n=0)\/(0<n/\wP n=1):=by unfold wP;split<;>(try split)<;>omega
theorem TM(b:Nat)(s:Sp)(f d lo:Int)(w:World)(hs:bdP s)(f1: -524288<=f)(f2:f<=524288)(d1: -1048576<=d)(d2:d<=1048576)(l1: -524289<=lo)(l2:lo<=524289)
  (hh:w.heap[b]? =some (.cells (jc5 s).toArray 178 (0,0))):
  Calls Tryz.prog 158 #[.pointer (some ⟨b,0,none⟩),.int .i64 f,.int .i64 d,.int .i64 lo] w λe w'=>e=.returned (.bool (UM s f d lo))/\Wr b w w'/\w'.heap[b]? =some (.cells (jc5 (wN s f d lo)).toArray 178 (0,0)):=by
 have hx:=xY f d lo f1 f2 d1 d2 l1 l2;obtain⟨x,ex⟩:∃x,Q7 f d lo=x:=⟨_,rfl⟩;rw[ex] at hx;have hs1:=Wq hs hx
 have hs2:=WH hs1 hx;obtain⟨x1,x2⟩:=hx;obtain⟨y1,y2⟩:=hs;obtain⟨z1,z2⟩:=hs1;obtain⟨u1,u2⟩:=hs2;refine Q8 (m:=122) (Tryz.func158) J J (lb J) (hh) ?_;refine S10 ?_;refine cZ (λc1=>?_) (λc1=>?_)
 .refine S6 ?_;refine cV 19 (λg1=>?_) (λg1=>?_)
  .refine S13 ?_;refine jK J (.tmp J) ?_;intro w' hs;exact⟨by subst c1;simp[UM,g1],hs.over.wr,by subst c1;simpa[wN] using hs.cel (k:=0) rfl⟩
  .refine S9 ?_;refine jK J (.tmp J) ?_;intro w' hs;exact⟨by subst c1;simp[UM];omega,hs.over.wr,by subst c1;simpa[wN] using hs.cel (k:=0) rfl⟩
 .refine S8 ?_;refine a9 (JD J J (kG J J J)) ?_;refine S5 ?_;refine a9 (JD J J (kG J J J)) ?_;refine S1 ?_;refine aL (λb1=>?_);refine N1 ?_;refine aL (λb2=>?_);refine N5 ?_;refine uI [] ([.cel b 178 (jc5 s),.cel b1 176 [.int .i64 x.ln,.int .i64 x.ld,.bool x.lc],.cel b2 176 [.int .i64 x.hn,.int .i64 x.hd,.bool x.hc]]) (kK [0,8,9,10]) (λL h_t37=>?_) ?_
  .refine S5 ?_;refine cZ (λc2=>?_) (λc2=>?_)
   .refine S6 ?_;refine a9 (zN J J Om Om) ?_;refine a9 (JD J J (kG J J J)) ?_;refine S4 ?_;refine a9 (zN J J Om Om) ?_;refine a9 (JD J J (kG J J J)) ?_;refine S5 ?_;exact Jx h_t37 ⟨J,sz⟩ (λ_ h=>h.upto ⟨J,by rw[<-ex,Q7,if_neg Om,if_pos c2]<;>rfl,by rw[<-ex,Q7,if_neg Om,if_pos c2]<;>rfl,trivial⟩)
   .refine S2 ?_;exact Jx h_t37 ⟨J,sz⟩ (λ_ h=>h.upto ⟨J,by rw[<-ex,Q7,if_pos Om]<;>rfl,by rw[<-ex,Q7,if_pos Om]<;>rfl,trivial⟩)
  .refine v9 ?_;refine uI [] ([.cel b 178 (jc5 (q5 s x)),.cel b1 176 [.int .i64 x.ln,.int .i64 x.ld,.bool x.lc],.cel b2 176 [.int .i64 x.hn,.int .i64 x.hd,.bool x.hc]]) (kK [0,8,10]) (λL h_t67=>?_) ?_
   .refine S2 ?_;refine JY 7 ?_;refine dK 0 ?_;refine dK 1 ?_;refine dK 2 ?_;refine dK 3 ?_;refine dK 4 ?_;refine dZ 5 J (jT vH J J (λw h=>wB _ _ _ _ _ _ w (by assumption) (by assumption))) ?_;refine dK 6 ?_;refine JK Kr ?_;refine S1 ?_;refine qH [(67,.bool (UQ s x))] (kK [0,8,9,10]) (λL h_7=>?_) ?_
    .refine S4 ?_;refine cV 59 (λg2=>?_) (λg2=>?_)
     .refine S9 ?_;exact Jx h_7 ⟨vb (by have k:=Vn (x.ln*s.ld-s.ln*x.ld);symm;simp[UQ];omega),sz⟩ (u9 rfl)
     .refine S6 ?_;refine cV 62 (λg3=>?_) (λg3=>?_)
      .refine S10 ?_;exact Jx h_7 ⟨vb (by have k:=Vn (x.ln*s.ld-s.ln*x.ld);have e:s.ln*x.ld-x.ln*s.ld=0:=Om;simp[UQ,e]),sz⟩ (u9 rfl)
      .refine S7 ?_;exact Jx h_7 ⟨vb (by have k:=Vn (x.ln*s.ld-s.ln*x.ld);symm;simp[UQ];omega),sz⟩ (u9 rfl)
    .refine v9 ?_;refine cZ (λc3=>?_) (λc3=>?_)
     .refine S6 ?_;refine B9 (k:=0) J J J J (J) (by rfl) Kz.szx J ?_;refine N1 ?_;exact Jx h_t67 ⟨J,sz⟩ (λ_ h=>h.upto ⟨by rw[q5,if_pos c3]<;>rfl,sz⟩)
     .refine S2 ?_;exact Jx h_t67 ⟨J,sz⟩ (λ_ h=>h.upto ⟨by rw[q5,c3]<;>rfl,sz⟩)
   .refine v9 ?_;refine uI [] ([.cel b 178 (jc5 (J7 s x)),.cel b1 176 [.int .i64 x.ln,.int .i64 x.ld,.bool x.lc],.cel b2 176 [.int .i64 x.hn,.int .i64 x.hd,.bool x.hc]]) (kK [0,8]) (λL h_t88=>?_) ?_
    .refine S2 ?_;refine JY 7 ?_;refine dK 0 ?_;refine dK 1 ?_;refine dK 2 ?_;refine dK 3 ?_;refine dK 4 ?_;refine dZ 5 J (jT vH J J (λw h=>wB _ _ _ _ _ _ w (by assumption) (by assumption))) ?_;refine dK 6 ?_;refine JK Kr ?_;refine S1 ?_;refine qH [(88,.bool (Wx (q5 s x) x))] (kK [0,8,10]) (λL h_10=>?_) ?_
     .refine S4 ?_;refine cV 80 (λg4=>?_) (λg4=>?_)
      .refine S9 ?_;exact Jx h_10 ⟨vb (by have k:=Vn (x.hn*(q5 s x).hd-(q5 s x).hn*x.hd);symm;simp[Wx];omega),sz⟩ (u9 rfl)
      .refine S6 ?_;refine cV 83 (λg5=>?_) (λg5=>?_)
       .refine S10 ?_;exact Jx h_10 ⟨vb (by have k:=Vn (x.hn*(q5 s x).hd-(q5 s x).hn*x.hd);have e:(q5 s x).hn*x.hd-x.hn*(q5 s x).hd=0:=Om;simp[Wx,e]),sz⟩ (u9 rfl)
       .refine S7 ?_;exact Jx h_10 ⟨vb (by have k:=Vn (x.hn*(q5 s x).hd-(q5 s x).hn*x.hd);symm;simp[Wx];omega),sz⟩ (u9 rfl)
     .refine v9 ?_;refine cZ (λc4=>?_) (λc4=>?_)
      .refine S6 ?_;refine De (k:=0) J J J J (J) (by rfl) Kz.szx J ?_;refine N1 ?_;exact Jx h_t88 ⟨J,sz⟩ (λ_ h=>h.upto ⟨by rw[J7,kH,if_pos c4]<;>rfl,sz⟩)
      .refine S2 ?_;exact Jx h_t88 ⟨J,sz⟩ (λ_ h=>h.upto ⟨by rw[J7,kH,c4]<;>rfl,sz⟩)
    .refine V2 ?_;refine JY 10 ?_;refine dK 0 ?_;refine dK 1 ?_;refine dK 2 ?_;refine dK 3 ?_;refine dK 4 ?_;refine dK 5 ?_;refine dK 6 ?_;refine dK 7 ?_;refine dZ 8 J (jT vH J J (λw h=>wB _ _ _ _ _ _ w (by assumption) (by assumption))) ?_;refine dK 9 ?_;refine JK Kr ?_;refine S6 ?_;refine cV 104 (λg6=>?_) (λg6=>?_)
     .refine S20 ?_;refine jK J (.tmp J) ?_;intro w' hs;have k:=Vn ((J7 s x).ln*(J7 s x).hd-(J7 s x).hn*(J7 s x).ld)
      exact⟨Q4 (by rw[UM,if_neg c1,ex];symm;simp[Vh];omega),hs.over.wr,by rw[wN,if_neg c1,ex];exact hs.cel (k:=0) rfl⟩
     .refine S6 ?_;refine cV 107 (λg7=>?_) (λg7=>?_)
      .refine S14 ?_;refine cV 114 (λg8=>?_) (λg8=>?_)
       .refine S16 ?_;refine jK J (.tmp J) ?_;intro w' hs;have k:=Vn ((J7 s x).ln*(J7 s x).hd-(J7 s x).hn*(J7 s x).ld)
        have e:(J7 s x).ln*(J7 s x).hd-(J7 s x).hn*(J7 s x).ld=0:=Om;exact⟨Q4 (by rw[UM,if_neg c1,ex];simp[Vh,e, *]),hs.over.wr,by rw[wN,if_neg c1,ex];exact hs.cel (k:=0) rfl⟩
       .refine S11 ?_;refine jK J (.tmp J) ?_;intro w' hs;have k:=Vn ((J7 s x).ln*(J7 s x).hd-(J7 s x).hn*(J7 s x).ld)
        have e:(J7 s x).ln*(J7 s x).hd-(J7 s x).hn*(J7 s x).ld=0:=Om;exact⟨Q4 (by rw[UM,if_neg c1,ex];simp[Vh,e, *]),hs.over.wr,by rw[wN,if_neg c1,ex];exact hs.cel (k:=0) rfl⟩
      .refine S20 ?_;refine jK J (.tmp J) ?_;intro w' hs;have k:=Vn ((J7 s x).ln*(J7 s x).hd-(J7 s x).hn*(J7 s x).ld)
       exact⟨Q4 (by rw[UM,if_neg c1,ex];symm;simp[Vh];omega),hs.over.wr,by rw[wN,if_neg c1,ex];exact hs.cel (k:=0) rfl⟩
abbrev jjc(s:Sp):Value:=.agg #[.int .i64 s.ln,.int .i64 s.ld,.bool s.lc,.int .i64 s.hn,.int .i64 s.hd,.bool s.hc]
theorem DE:bdP ux:=⟨⟨by decide,by decide⟩,by decide,by decide⟩
theorem jdV{s:Sp}{f d lo:Int}(hs:bdP s)(hx:bdP (Q7 f d lo)):bdP (wN s f d lo):=by
 unfold wN;split
 .exact hs
 .exact WH (Wq hs hx) hx
theorem FJ(ax ay bx b_y px_ py_:Int)(w:World)(ha:WT ax ay=true)(hb:WT bx b_y=true)(hp:WT px_ py_=true):
  Calls Tryz.prog 134 #[Wh ax ay,Wh bx b_y,Wh px_ py_] w λe w'=>e=.returned (.tuple #[jjc (if UM ux (2*ax) (2*(bx-ax)) (2*px_-1)=true then wN (wN ux (2*ax) (2*(bx-ax)) (2*px_-1)) (2*ay) (2*(b_y-ay)) (2*py_-1) else wN ux (2*ax) (2*(bx-ax)) (2*px_-1)),
   .bool (UM ux (2*ax) (2*(bx-ax)) (2*px_-1) &&UM (wN ux (2*ax) (2*(bx-ax)) (2*px_-1)) (2*ay) (2*(b_y-ay)) (2*py_-1))])/\Over w w':=by
 simp[WT,X2] at ha hb hp;have hs1:=jdV (f:=2*ax) (d:=2*(bx-ax)) (lo:=2*px_-1) DE (xY _ _ _ Om Om Om Om Om Om)
 refine Jm (m:=45) (Tryz.func134) J J (lb J) ?_;refine S3 ?_;refine aX (λb1=>?_);refine N1 ?_;refine aX (λb2=>?_);refine N1 ?_;refine aX (λb3=>?_);refine N1 ?_;refine aL (λb4=>?_);refine N4 ?_;refine a9 (JD J J (kG J J J)) ?_;refine a9 (JD J J (kG J J J)) ?_;refine a9 (JD J J (zm J J)) ?_;refine S1 ?_;refine aL (λb5=>?_);refine N4 ?_;refine jkI (Rs':=[.cel b1 36 [.int .i64 ax,.int .i64 ay],.cel b2 36 [.int .i64 bx,.int .i64 b_y],.cel b3 36 [.int .i64 px_,.int .i64 py_],.cel b4 178 [.int .i64 0,.int .i64 0,.bool false,.int .i64 0,.int .i64 0,.bool false],.cel b5 178 (jc5 ux)]) (λ_ h=>h) ?_;refine S15 ?_;refine QL (k:=4) Wa J J J Dc J (λw h=>TM b5 ux (2*ax) (2*(bx-ax)) (2*px_-1) w DE Om Om Om Om Om Om (h.cel (k:=4) J)) ?_;refine N1 ?_;refine cV 27 (λg1=>?_) (λg1=>?_)
 .refine S27 ?_;refine QL (k:=4) Wa J J J Dc J (λw h=>TM b5 (wN ux (2*ax) (2*(bx-ax)) (2*px_-1)) (2*ay) (2*(b_y-ay)) (2*py_-1) w hs1 Om Om Om Om Om Om (h.cel (k:=4) J)) ?_;refine N12 ?_;refine qG J (qj (k:=3) J VJ J J) (.tmp J) ?_;intro w' hs;exact⟨by rw[if_pos g1,g1,jlZ];rfl,hs.fin⟩
 .refine S26 ?_;refine qG J (qj (k:=3) J VJ J J) (.tmp J) ?_;intro w' hs;exact⟨by rw[if_neg (by rw[g1];simp),g1,jmg];rfl,hs.fin⟩
abbrev spV(s:Sp):Value:=.agg #[.int .i64 s.ln,.int .i64 s.ld,.int .i64 s.hn,.int .i64 s.hd,.bool s.lc,.bool s.hc]
def spC(s:Sp):List Value:=[.int .i64 s.ln,.int .i64 s.ld,.int .i64 s.hn,.int .i64 s.hd,.bool s.lc,.bool s.hc]
theorem Mw(f d lo hi:Int)(w:World)(hh:hi=lo+2)(f1: -1048576<=f)(f2:f<=1048576)(d1: -1048576<=d)(d2:d<=1048576)(l1: -1048576<=lo)(l2:lo<=1048576):
  Calls Tryz.prog 145 #[.int .i64 f,.int .i64 d,.int .i64 lo,.int .i64 hi] w λe w'=>e=.returned (.tuple #[spV (Q7 f d lo),.bool (va f d lo)])/\Over w w':=by
 subst hh;have tv:∀{s s':Sp} {a a':Bool},s'=s->a'=a->Ending.returned (.tuple #[spV s,.bool a])=Ending.returned (.tuple #[spV s',.bool a']):=λh1 h2=>by rw[h1,h2]
 refine Jm (m:=45) (Tryz.func145) J J (lb J) ?_;refine S3 ?_;refine aL (λb1=>?_);refine N10 ?_;refine cZ (λc1=>?_) (λc1=>?_)
 .refine S10 ?_;refine a9 (JD J J (yc J J J J J)) ?_;refine S7 ?_;refine qG J (qj (k:=0) J qB J J) (.tmp J) ?_;intro w' hs;exact⟨tv (s:=⟨lo-f,d,true,lo+2-f,d,false⟩) (by rw[Q7,if_pos c1]) (by simp[va];omega),hs.fin⟩
 .refine S6 ?_;refine cZ (λc2=>?_) (λc2=>?_)
  .refine S6 ?_;refine a9 (zN J J Om Om) ?_;refine S4 ?_;refine a9 (zN J J Om Om) ?_;refine a9 (JD J J (yd J J J J J)) ?_;refine S7 ?_;refine qG J (qj (k:=0) J qB J J) (.tmp J) ?_;intro w' hs;exact⟨tv (s:=⟨f-(lo+2),-d,false,f-lo,-d,true⟩) (by rw[Q7,if_neg Om,if_pos c2];congr 1;omega) (by simp[va];omega),hs.fin⟩
  .refine S5 ?_;refine a9 (JD J J (VM J J J J J J)) ?_;refine S4 ?_;refine cV 40 (λg1=>?_) (λg1=>?_)
   .refine S12 ?_;refine qG J (qj (k:=0) J qB J J) (.tmp J) ?_;intro w' hs;exact⟨tv (s:=ux) (by rw[Q7,if_neg Om,if_neg Om]) (by simp[va,show d=0 by omega,g1]),hs.fin⟩
   .refine S9 ?_;refine qG J (qj (k:=0) J qB J J) (.tmp J) ?_;intro w' hs;exact⟨tv (s:=ux) (by rw[Q7,if_neg Om,if_neg Om]) (by simp[va,show d=0 by omega];omega),hs.fin⟩
theorem Rh{a b c d:Int}(h:bd1 a b)(k:bd1 c d):(-4398046511104<=a*d/\a*d<=4398046511104)/\(-4398046511104<=c*b/\c*b<=4398046511104):=by
 obtain⟨⟨a1,a2⟩,a3,a4⟩:=h;obtain⟨⟨b1,b2⟩,b3,b4⟩:=k;exact⟨QN a1 a2 b3 b4,QN b1 b2 a3 a4⟩
theorem Mx(s x:Sp)(w:World)(hs:bdP s)(hx:bdP x):
  Calls Tryz.prog 146 #[spV s,spV x] w λe w'=>e=.returned (spV (J7 s x))/\Over w w':=by
 have hs1:=Wq hs hx;obtain⟨m1,m2⟩:=Rh hs.low hx.low;obtain⟨m3,m4⟩:=Rh hs1.high hx.high;refine Jm (m:=70) (Tryz.func146) J J (lb J) ?_;refine S3 ?_;refine aX (λb1=>?_);refine N1 ?_;refine aX (λb2=>?_);refine N1 ?_;refine aL (λb3=>?_);refine N16 ?_;refine uI [] ([.cel b1 161 (spC (q5 s x)),.cel b2 161 (spC x),.cel b3 161 [.int .i64 0,.int .i64 0,.int .i64 0,.int .i64 0,.bool false,.bool false]]) (kK [2,3,4]) (λL h_t28=>?_) ?_
 .refine qH [(28,.bool (UQ s x))] (kK [2,3,4]) (λL h_2=>?_) ?_
  .refine S4 ?_;refine cV 20 (λg1=>?_) (λg1=>?_)
   .refine S9 ?_;exact Jx h_2 ⟨vb (by symm;simp[UQ];omega),sz⟩ (u9 J)
   .refine S6 ?_;refine cV 23 (λg2=>?_) (λg2=>?_)
    .refine S10 ?_;exact Jx h_2 ⟨vb (by simp[UQ,g2]),sz⟩ (u9 J)
    .refine S7 ?_;exact Jx h_2 ⟨vb (by symm;simp[UQ];omega),sz⟩ (u9 J)
  .refine v9 ?_;refine cZ (λc1=>?_) (λc1=>?_)
   .refine S6 ?_;refine B8 (k:=0) J J J J (J) (by rfl) Kl.szx J ?_;refine N7 ?_;refine Da (k:=0) J J J J (J) (by rfl) Kl.szx J ?_;refine N6 ?_;refine Df (k:=0) J J J J (J) (by rfl) Y7.szx J ?_;refine N1 ?_;exact Jx h_t28 ⟨J,sz⟩ (λ_ h=>h.upto ⟨by rw[q5,if_pos c1]<;>rfl,sz⟩)
   .refine S2 ?_;exact Jx h_t28 ⟨J,sz⟩ (λ_ h=>h.upto ⟨by rw[q5,c1]<;>rfl,sz⟩)
 .refine V15 ?_;refine uI [] ([.cel b1 161 (spC (J7 s x)),.cel b2 161 (spC x),.cel b3 161 [.int .i64 0,.int .i64 0,.int .i64 0,.int .i64 0,.bool false,.bool false]]) (kK [2,4]) (λL h_t59=>?_) ?_
  .refine qH [(59,.bool (Wx (q5 s x) x))] (kK [2,3,4]) (λL h_7=>?_) ?_
   .refine S4 ?_;refine cV 51 (λg3=>?_) (λg3=>?_)
    .refine S9 ?_;exact Jx h_7 ⟨vb (by symm;simp[Wx];omega),sz⟩ (u9 J)
    .refine S6 ?_;refine cV 54 (λg4=>?_) (λg4=>?_)
     .refine S10 ?_;exact Jx h_7 ⟨vb (by simp[Wx,g4]),sz⟩ (u9 J)
     .refine S7 ?_;exact Jx h_7 ⟨vb (by symm;simp[Wx];omega),sz⟩ (u9 J)
   .refine v9 ?_;refine cZ (λc2=>?_) (λc2=>?_)
    .refine S6 ?_;refine Db (k:=0) J J J J (J) (by rfl) Kl.szx J ?_;refine N7 ?_;refine Dd (k:=0) J J J J (J) (by rfl) Kl.szx J ?_;refine N6 ?_;refine Dg (k:=0) J J J J (J) (by rfl) Y7.szx J ?_;refine N1 ?_;exact Jx h_t59 ⟨J,sz⟩ (λ_ h=>h.upto ⟨by rw[J7,kH,if_pos c2]<;>rfl,sz⟩)
    .refine S2 ?_;exact Jx h_t59 ⟨J,sz⟩ (λ_ h=>h.upto ⟨by rw[J7,kH,c2]<;>rfl,sz⟩)
  .refine V7 ?_;refine jK J (qj (k:=2) J qB J J) ?_;intro w' hs;exact⟨rfl,hs.fin⟩
theorem Fr(ax ay bx b_y px_ py_:Int)(w:World)(ha:WT ax ay=true)(hb:WT bx b_y=true)(hp:WT px_ py_=true):
  Calls Tryz.prog 121 #[Wh ax ay,Wh bx b_y,Wh px_ py_] w λe w'=>e=.returned (.tuple #[spV (if(va (2*ax) (2*(bx-ax)) (2*px_-1) &&va (2*ay) (2*(b_y-ay)) (2*py_-1))=true then J7 (J7 ux (Q7 (2*ax) (2*(bx-ax)) (2*px_-1))) (Q7 (2*ay) (2*(b_y-ay)) (2*py_-1)) else ux),
   .bool (G1 (2*ax) (2*(bx-ax)) (2*px_-1) (2*ay) (2*(b_y-ay)) (2*py_-1))])/\Over w w':=by
 simp[WT,X2] at ha hb hp;have hx:=xY (2*ax) (2*(bx-ax)) (2*px_-1) Om Om Om Om Om Om
 have hy:=xY (2*ay) (2*(b_y-ay)) (2*py_-1) Om Om Om Om Om Om;have h1:=WH (Wq DE hx) hx
 obtain⟨sx,ex⟩:∃s,Q7 (2*ax) (2*(bx-ax)) (2*px_-1)=s:=⟨_,rfl⟩;obtain⟨sy,ey⟩:∃s,Q7 (2*ay) (2*(b_y-ay)) (2*py_-1)=s:=⟨_,rfl⟩;obtain⟨ix,jx⟩:∃s,va (2*ax) (2*(bx-ax)) (2*px_-1)=s:=⟨_,rfl⟩;obtain⟨iy,jy⟩:∃s,va (2*ay) (2*(b_y-ay)) (2*py_-1)=s:=⟨_,rfl⟩;unfold G1;rw[ex] at hx h1;rw[ey] at hy;rw[ex,ey,jx,jy];change bdP (J7 ux sx) at h1;obtain⟨s2,e2⟩:∃s,J7 (J7 ux sx) sy=s:=⟨_,rfl⟩;rw[e2];have h2:bdP (J7 (J7 ux sx) sy):=WH (Wq h1 hy) hy
 rw[e2] at h2;obtain⟨m1,m2⟩:=Rh h2.low h2.high;have hA:∀w,Calls Tryz.prog 145 #[.int .i64 (2*ax),.int .i64 (2*(bx-ax)),.int .i64 (2*px_-1),.int .i64 (2*px_+1)] w λe w'=>e=.returned (.tuple #[spV sx,.bool ix])/\Over w w':=λw=>ex▸jx▸Mw _ _ _ _ w Om Om Om Om Om Om Om
 have hB:∀w,Calls Tryz.prog 145 #[.int .i64 (2*ay),.int .i64 (2*(b_y-ay)),.int .i64 (2*py_-1),.int .i64 (2*py_+1)] w λe w'=>e=.returned (.tuple #[spV sy,.bool iy])/\Over w w':=λw=>ey▸jy▸Mw _ _ _ _ w Om Om Om Om Om Om Om
 have hC:∀w,Calls Tryz.prog 146 #[spV (J7 ux sx),spV sy] w λe w'=>e=.returned (spV s2)/\Over w w':=λw=>e2▸Mx _ _ w h1 hy
 refine Jm (m:=95) (Tryz.func121) J J (lb J) ?_;refine S3 ?_;refine aX (λb1=>?_);refine N1 ?_;refine aX (λb2=>?_);refine N1 ?_;refine aX (λb3=>?_);refine N1 ?_;refine aL (λb4=>?_);refine N4 ?_;refine a9 (JD J J (VM J J J J J J)) ?_;refine S1 ?_;refine aL (λb5=>?_);refine N22 ?_;refine a9 (jT Zs J J (λw h=>hA w)) ?_;refine S4 ?_;refine aL (λb6=>?_);refine N23 ?_;refine a9 (jT Zs J J (λw h=>hB w)) ?_;refine S4 ?_;refine aL (λb7=>?_);refine N5 ?_;refine qH [(62,.bool (!(ix&&iy)))] (kK [6,7,8,9,11]) (λL h_4=>?_) ?_
 .refine S4 ?_;refine cV 59 (λg1=>?_) (λg1=>?_)
  .refine S4 ?_;exact Jx h_4 ⟨vb (by simp[g1]),sz⟩ (u9 J)
  .refine S6 ?_;exact Jx h_4 ⟨vb (by simp[g1]),sz⟩ (u9 J)
 .refine v9 ?_;refine cZ (λc1=>?_) (λc1=>?_)
  .refine S9 ?_;refine qG J (qj (k:=3) J qB J J) (.tmp J) ?_;intro w' hs;have q:((ix&&iy)=true)=False:=(by simp at c1;simp;exact c1)
   exact⟨by simp only[q,if_false];simp at c1;cases ix<;>simp_all[ux],hs.fin⟩
  .have q:(ix&&iy)=true:=(by simpa using c1);refine S4 ?_;refine JY 5 ?_;refine dK 0 ?_;refine dK 1 ?_;refine dZ 2 J (jT Zu J J (λw h=>Mx ux sx w DE hx)) ?_;refine dK 3 ?_;refine dZ 4 J (jT Zu J J (λw h=>hC w)) ?_;refine vg J Kr J ?_;refine S1 ?_;refine Yp Kr ?_;refine S18 ?_;refine Qy 17 [3] ?_;refine dK 0 ?_;refine dK 1 ?_;refine dK 2 ?_;refine dK 3 ?_;refine cV 83 (λg2=>?_) (λg2=>?_)
   .refine fK 4 ?_;refine fK 5 ?_;refine fK 6 ?_;refine vu (i:=7) J Kr Kr Kr [] Kr (λ_ _ _ h=>h) J J J J J Dc (uw [3] J) ?_;refine vu (i:=8) J Kr Kr Kr [] Kr (λ_ _ _ h=>h) J J J J J Dc (uw [3] J) ?_;refine fK 9 ?_;refine fK 10 ?_;refine vu (i:=11) J Kr Kr Kr [] Kr (λ_ _ _ h=>h) J J J J J Dc (uw [3] J) ?_;refine vu (i:=12) J Kr Kr Kr [] Kr (λ_ _ _ h=>h) J J J J J Dc (uw [3] J) ?_;refine fK 13 ?_;refine dK 14 ?_;refine qg (i:=15) J Dc Kr J ?_;refine S1 ?_;refine JS (uw [3] J) ?_;refine dK 16 ?_;refine JK Kr ?_;refine S2 ?_;refine qG J (qj (k:=3) J qB J J) (.tmp J) ?_;intro w' hs;exact⟨by rw[if_pos q,q,jlZ,show Vh s2=true from(by simp[Vh];omega)],hs.fin⟩
   .refine eK 4 ?_;refine eK 5 ?_;refine eK 6 ?_;refine cV 86 (λg3=>?_) (λg3=>?_)
    .refine eK 7 ?_;refine eK 8 ?_;refine eK 9 ?_;refine eK 10 ?_;refine cV 90 (λg4=>?_) (λg4=>?_)
     .refine eK 11 ?_;refine eK 12 ?_;refine eK 13 ?_;refine dK 14 ?_;refine qg (i:=15) J Dc Kr J ?_;refine S1 ?_;refine JS (uw [3] J) ?_;refine dK 16 ?_;refine JK Kr ?_;refine S2 ?_;refine qG J (qj (k:=3) J qB J J) (.tmp J) ?_;intro w' hs;exact⟨by rw[if_pos q,q,jlZ,show Vh s2=s2.hc from(by simp[Vh, *])],hs.fin⟩
     .refine fK 11 ?_;refine fK 12 ?_;refine eK 13 ?_;refine dK 14 ?_;refine qg (i:=15) J Dc Kr J ?_;refine S1 ?_;refine JS (uw [3] J) ?_;refine dK 16 ?_;refine JK Kr ?_;refine S2 ?_;refine qG J (qj (k:=3) J qB J J) (.tmp J) ?_;intro w' hs;exact⟨by rw[if_pos q,q,jlZ,show Vh s2=false from(by simp[Vh, *])],hs.fin⟩
    .refine fK 7 ?_;refine fK 8 ?_;refine eK 9 ?_;refine eK 10 ?_;refine fK 11 ?_;refine fK 12 ?_;refine eK 13 ?_;refine dK 14 ?_;refine qg (i:=15) J Dc Kr J ?_;refine S1 ?_;refine JS (uw [3] J) ?_;refine dK 16 ?_;refine JK Kr ?_;refine S2 ?_;refine qG J (qj (k:=3) J qB J J) (.tmp J) ?_;intro w' hs;exact⟨by rw[if_pos q,q,jlZ,show Vh s2=false from(by simp[Vh];omega)],hs.fin⟩
end Go.Proofs.YtjbahemkhphndaaGreat
