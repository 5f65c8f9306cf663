import Derived.Test.YtbahojdbmmjkcaaGreatMPathP
set_option linter.unusedVariables false
set_option linter.unusedSimpArgs false
namespace Go.Proofs.YtbahojdbmmjkcaaGreat
open Go Go.RowKit
variable {A:Option Addr} {B c j k m:Nat} {a b p:Pn} {l ys:List Pn} {v:Value} {w:World} {xs:List Value}
set_option maxRecDepth 100000
set_option maxHeartbeats 4000000
section
variable {α:Type} {f:α→List Value} {s:Nat}
theorem Ip (hf:∀e,(f e).length=s) (l:List α) : (l.flatMap f).length=l.length*s:=by
 induction l with
 | nil=>simp
 | cons e l ih=>rw [jjH,jjk,ih,hf,jjr,Nat.succ_mul,Nat.add_comm]
theorem jfe (hf:∀e,(f e).length=s) (l:List α) (k:Nat) (hk:k≤l.length) : (l.flatMap f).take (k*s) = (l.take k).flatMap f:=by
 conv=>lhs;rw [←jjA k l]
 rw [jjv,List.take_append_of_le_length (by rw [Ip hf,jjC,jku hk];exact jjm _),jjR (by rw [Ip hf,jjC,jku hk];exact jjm _)]
theorem jfd (hf:∀e,(f e).length=s) (l:List α) (k:Nat) (hk:k≤l.length) : (l.flatMap f).drop (k*s) = (l.drop k).flatMap f:=by
 conv=>lhs;rw [←jjA k l]
 have hl: ((l.take k).flatMap f).length=k*s:=by rw [Ip hf,jjC,jku hk]
 rw [jjv,←hl,List.drop_left]
theorem jil (hf:∀e,(f e).length=s) {l:List α} {i:Nat} {e:α} (h:l[i]? =some e) (hv: (f e)[j]? =some v) : (l.flatMap f)[i*s+j]? =some v:=by
 obtain ⟨hi,rfl⟩ :=List.getElem?_eq_some_iff.1 h
 have hj:= (List.getElem?_eq_some_iff.1 hv).1
 have e1:l=l.take i++ (l[i] ::l.drop (i+1)) :=by rw [←jj5 hi,jjA]
 have hl: ((l.take i).flatMap f).length=i*s:=by rw [Ip hf,jjC,jku Om]
 have e2:l.flatMap f= (l.take i).flatMap f++ (f l[i] ++ (l.drop (i+1)).flatMap f) :=by
  conv=>lhs;rw [e1]
  rw [jjv,jjH]
 rw [e2,List.getElem?_append_right (by rw [hl];omega),hl,Nat.add_sub_cancel_left,List.getElem?_append_left hj]
 exact hv
end
theorem jee {U s:Nat} (h:w.ownsRow B U s (.slice A m c) m xs) (hk:k≤m) :Src s (sliced A 0 k c s) k (xs.take (k*s)) w:=by
 have hlen:=h.1
 refine⟨by rw [jjC,hlen,jku (Nat.mul_le_mul_right _ hk)],?_⟩
 rcases h.2 with⟨e,e2⟩ |⟨g,cap,cur,e,hb,hg,hcap,_⟩
 ·injection e with e1 e3 e4
  subst e1 e2 e4
  obtain rfl:k=0:=by omega
  exact .inl ⟨rfl,rfl⟩
 ·injection e with e1 e3 e4
  subst e1 e4
  rw [ue]
  refine .inr ⟨_,_,J,fun j u hu=>h.cells J j u ?_⟩
  rw [List.getElem?_take] at hu
  split at hu
  ·exact hu
  ·cases hu
theorem jef {U s:Nat} (h:w.ownsRow B U s (.slice A m c) m xs) (hk:k≤m) :Src s (sliced A k m c s) (m- k) (xs.drop (k*s)) w:=by
 have hlen:=h.1
 refine⟨by rw [jjO,hlen,Nat.mul_sub_right_distrib],?_⟩
 rcases h.2 with⟨e,e2⟩ |⟨g,cap,cur,e,hb,hg,hcap,_⟩
 ·injection e with e1 e3 e4
  subst e1 e2 e4
  obtain rfl:k=0:=by omega
  exact .inl ⟨rfl,rfl⟩
 ·injection e with e1 e3 e4
  subst e1 e4
  rw [UK hcap hk]
  refine .inr ⟨_,_,J,fun j u hu=> ?_⟩
  rw [List.getElem?_drop] at hu
  have:=h.cells rfl _ u hu
  rw [Q1] at this⊢
  rw [←this]
  congr 2
  unfold zJ
  have hj:= (List.getElem?_eq_some_iff.1 hu).1
  have hks:k*s+j<m*s:=by omega
  have hkc:¬c=k:=fun e=>by
   subst e
   have:m=c:=by omega
   subst this
   omega
  rw [if_neg hkc]
  omega
def zC (s x:Sp) :Bool:=decide (s.ln*x.ld- x.ln*s.ld<0) || (decide (s.ln*x.ld- x.ln*s.ld=0) &&s.lc&& !x.lc)
theorem EC (a b p q:Pn) :QJ VR (DP a b p) (DP a b q) =zC (J4 a b p) (J4 a b q) :=by
 rw [jjT,QJ,decide_eq_true_eq,D2]
 unfold jc0 zC DP
 simp only [jkb,jjl,decide_eq_true_eq,jj9]
 constructor
 ·rintro(h |⟨h1,h2,h3⟩)
  ·exact .inl Om
  ·exact .inr ⟨⟨by omega,h2⟩,h3⟩
 ·rintro(h |⟨⟨h1,h2⟩,h3⟩)
  ·exact .inl Om
  ·exact .inr ⟨by omega,h2,h3⟩
def KQ (a b p q:Pn) :Bool:=zC (J4 a b p) (J4 a b q)
theorem Y4 (a b:Pn) :Weak (KQ a b) :=by
 have:=ES.by (DP a b)
 have e: (fun x y=>QJ VR (DP a b x) (DP a b y)) =KQ a b:=by funext p q;exact EC a b p q
 rwa [e] at this
def wm (a b:Pn) (l:List Pn) :List Pn:=Kd (KQ a b) (l.filter (KN a b))
theorem Wg (a b:Pn) (hot:List Pn) :qC a b hot=wm a b hot:=by
 unfold qC wm vj
 rw [Rj (lt:=KQ a b) (fun p _ q _=>EC a b p q),jk6]
 exact List.map_id' _
theorem MV (hk:k<ys.length) (h:KN a b (pt ys k) =false) :wm a b (ys.take (k+1)) =wm a b (ys.take k) :=by
 unfold wm
 rw [GR hk,jkN]
 simp [h]
theorem jek (hk:k<ys.length) (h:KN a b (pt ys k) =true) :wm a b (ys.take (k+1)) =wd (KQ a b) (pt ys k) (wm a b (ys.take k)) :=by
 unfold wm
 rw [GR hk,jkN,show [pt ys k].filter (KN a b) = [pt ys k] by simp [h],BN]
theorem GQ (a b:Pn) (l:List Pn) : (wm a b l).length≤l.length:=by
 unfold wm
 rw [Qw]
 exact jkZ _ _
theorem jej (h:p∈wm a b l) :p∈l:=by
 unfold wm at h
 rw [Z9] at h
 exact(jkc.1 h).1
def stC (a b p:Pn) :List Value:= [.int .i64 p.1, .int .i64 p.2, .int .i64 (J4 a b p).ln, .int .i64 (J4 a b p).ld, .int .i64 (J4 a b p).hn, .int .i64 (J4 a b p).hd, .bool (J4 a b p).lc, .bool (J4 a b p).hc]
theorem Rk (a b p:Pn) : (stC a b p).length=8:=rfl
theorem EG (a b:Pn) (l:List Pn) :∀u∈l.flatMap (stC a b),u.oneCell'=true:=fun u hu=>by
 obtain ⟨p,_,hu⟩ :=jkO.1 hu
 simp only [stC,jjw,jj8,or_false] at hu
 rcases hu with rfl | rfl | rfl | rfl | rfl | rfl | rfl | rfl<;>rfl
theorem Dv (b1 o1 b2 o2:Nat) (s x:Sp) (w:World) (h1:∀q v,(spC s)[q]? =some v→w.cell? ⟨b1,o1+q,none⟩ =some v) (hb1:b1<w.heap.size) (h2:∀q v,(spC x)[q]? =some v→w.cell? ⟨b2,o2+q,none⟩ =some v) (hb2:b2<w.heap.size) (hs:bdP s) (hx:bdP x) :
  Calls Tryz.prog 250 #[.pointer (some ⟨b1,o1,none⟩), .pointer (some ⟨b2,o2,none⟩)] w fun e w'=>e= .returned (.bool (zC s x))∧Over w w':=by
 obtain ⟨m1,m2⟩ :=F8 hs.low hx.low
 refine j6 (m:=44) (Tryz.func250) J J (lb J) ?_;refine S6 ?_;refine JS 20 ?_;refine dK 0 ?_;refine dK 1 ?_;refine dK 2 ?_;refine dZ 3 rfl (jo rfl rfl ju (by first | exact Qi (h1 0 _ rfl) hb1 | exact Qi (h1 1 _ rfl) hb1 | exact Qi (h1 4 _ rfl) hb1 | exact Qi (h2 0 _ rfl) hb2 | exact Qi (h2 1 _ rfl) hb2 | exact Qi (h2 4 _ rfl) hb2)) ?_;refine dK 4 ?_;refine dK 5 ?_;refine dK 6 ?_;refine dZ 7 rfl (jo rfl rfl ju (by first | exact Qi (h1 0 _ rfl) hb1 | exact Qi (h1 1 _ rfl) hb1 | exact Qi (h1 4 _ rfl) hb1 | exact Qi (h2 0 _ rfl) hb2 | exact Qi (h2 1 _ rfl) hb2 | exact Qi (h2 4 _ rfl) hb2)) ?_;refine dK 8 ?_;refine dK 9 ?_;refine dK 10 ?_;refine dK 11 ?_;refine dZ 12 rfl (jo rfl rfl ju (by first | exact Qi (h1 0 _ rfl) hb1 | exact Qi (h1 1 _ rfl) hb1 | exact Qi (h1 4 _ rfl) hb1 | exact Qi (h2 0 _ rfl) hb2 | exact Qi (h2 1 _ rfl) hb2 | exact Qi (h2 4 _ rfl) hb2)) ?_;refine dK 13 ?_;refine dK 14 ?_;refine dK 15 ?_;refine dZ 16 rfl (jo rfl rfl ju (by first | exact Qi (h1 0 _ rfl) hb1 | exact Qi (h1 1 _ rfl) hb1 | exact Qi (h1 4 _ rfl) hb1 | exact Qi (h2 0 _ rfl) hb2 | exact Qi (h2 1 _ rfl) hb2 | exact Qi (h2 4 _ rfl) hb2)) ?_;refine dK 17 ?_;refine dK 18 ?_;refine dK 19 ?_;refine JJ Kr ?_;refine S6 ?_;refine cV 27 (fun g1=> ?_) (fun g1=> ?_)
 ·refine S19 ?_;refine jK J (.tmp J) ?_
  intro w' hs
  exact⟨QF (by unfold zC;simp_all),hs.fin⟩
 ·refine S6 ?_;refine cV 30 (fun g2=> ?_) (fun g2=> ?_)
  ·refine S7 ?_;refine o9 (jo rfl rfl QT (by first | exact Qi (h1 0 _ rfl) hb1 | exact Qi (h1 1 _ rfl) hb1 | exact Qi (h1 4 _ rfl) hb1 | exact Qi (h2 0 _ rfl) hb2 | exact Qi (h2 1 _ rfl) hb2 | exact Qi (h2 4 _ rfl) hb2)) ?_;refine S4 ?_;refine cV 36 (fun g3=> ?_) (fun g3=> ?_)
   ·refine S7 ?_;refine o9 (jo rfl rfl QT (by first | exact Qi (h1 0 _ rfl) hb1 | exact Qi (h1 1 _ rfl) hb1 | exact Qi (h1 4 _ rfl) hb1 | exact Qi (h2 0 _ rfl) hb2 | exact Qi (h2 1 _ rfl) hb2 | exact Qi (h2 4 _ rfl) hb2)) ?_;refine S8 ?_;refine jK J (.tmp J) ?_
    intro w' hs
    exact⟨QF (by unfold zC;simp_all),hs.fin⟩
   ·refine S11 ?_;refine jK J (.tmp J) ?_
    intro w' hs
    exact⟨QF (by unfold zC;simp_all),hs.fin⟩
  ·refine S19 ?_;refine jK J (.tmp J) ?_
   intro w' hs
   exact⟨QF (by unfold zC;simp_all),hs.fin⟩
theorem jcd (b3:Nat) (a b:Pn) (w:World) (h:Pts w (some ⟨b3,0,none⟩) 2 [a,b]) :Calls Tryz.prog 96 #[.slice (some ⟨b3,0,none⟩) 2 2] w fun e w'=>e= .returned (.tuple #[Uh (min a.1 b.1) (min a.2 b.2),Uh (max a.1 b.1) (max a.2 b.2)])∧Over w w':=by
 have:=OM _ 2 2 [a,b] w h Dc Dc
 exact this
def inS (a b p:Pn) :Sp:=if(KO (2*a.1) (2* (b.1- a.1)) (2*p.1- 1) &&KO (2*a.2) (2* (b.2- a.2)) (2*p.2- 1)) =true then J4 a b p else uu
theorem jhk (h:Vm a b p=true) :inS a b p=J4 a b p:=by
 unfold Vm XZ at h
 rw [jjl] at h
 exact if_pos h.1
theorem SY (a b p:Pn) (w:World) (ha:wW a.1 a.2=true) (hb:wW b.1 b.2=true) (hp:wW p.1 p.2=true) :
  Calls Tryz.prog 249 #[pV a,pV b,pV p] w fun e w'=>e= .returned (.tuple #[spV (inS a b p), .bool (Vm a b p)])∧Over w w':=
 Du a.1 a.2 b.1 b.2 p.1 p.2 w ha hb hp
theorem jbQ (h:yv a b p=false) : (!(yv a b p&&zF a b p)) =true:=by rw [h];rfl
theorem jg3 (h:zF a b p=false) : (!(yv a b p&&zF a b p)) =true:=by rw [h,jkW];rfl
theorem XK (h1:min a.1 b.1- 1≤p.1) (h2:p.1≤max a.1 b.1+1) :yv a b p=true:=by unfold yv;rw [decide_eq_false (jkn.2 h1),decide_eq_false (jkn.2 h2)];rfl
theorem E9 (h:p.1>max a.1 b.1+1) :yv a b p=false:=by unfold yv;rw [decide_eq_true h,Bool.or_true];rfl
theorem jbR (h:p.2<min a.2 b.2- 1) :zF a b p=false:=by unfold zF;rw [decide_eq_true h];rfl
theorem jab (hx:yv a b p=true) (h:min a.2 b.2- 1≤p.2) :decide (p.2>max a.2 b.2+1) = !(yv a b p&&zF a b p) :=by rw [hx,jjG];unfold zF;rw [decide_eq_false (jkn.2 h),Bool.false_or,Bool.not_not]
theorem Fx (h: (yv a b p&&zF a b p) =false) :KN a b p=false:=by
 unfold KN
 rw [h,jjU]
theorem Py (h: (yv a b p&&zF a b p) =true) (hi:Vm a b p=true) :KN a b p=true:=by
 unfold KN
 rw [h,hi]
 rfl
def Fn (a b:Pn) (p:Pn) (l:List Pn) (j:Nat) :Bool:=match l[j- 1]? with
 | some q=>KQ a b p q
 | none=>false
theorem Pk (hj:j≤l.length) (hj0:0<j) (hle:Fn a b p l j=true) (h:∀q∈l.drop j,KQ a b p q=true) :∀q∈l.drop (j- 1),KQ a b p q=true:=fun q hq=>by
 rw [jj5 Om,show j- 1+1=j by omega] at hq
 rcases jjw.1 hq with rfl | hq
 ·unfold Fn at hle
  rw [List.getElem?_eq_getElem Om] at hle
  exact hle
 ·exact h q hq
theorem Pl (hj:j≤l.length) (h: (decide (0<j) &&Fn a b p l j) =false) :j=0∨∃q,l[j- 1]? =some q∧KQ a b p q=false:=by
 by_cases h0:0<j
 ·rw [decide_eq_true h0,jjG] at h
  refine .inr ⟨l[j- 1]'(by omega),List.getElem?_eq_getElem Om,?_⟩
  unfold Fn at h
  rw [List.getElem?_eq_getElem Om] at h
  exact h
 ·exact .inl Om
theorem ZL (a b:Pn) (l:List Pn) :UU (KQ a b) (wm a b l) :=Wo (Y4 a b) _
theorem jdP {T g:Nat} (h:w.ownsRow B T 8 (.slice (some ⟨g,0,none⟩) m c) m (l.flatMap (stC a b))) (hp:l[j]? =some p) {q:Nat} (hv: (stC a b p)[q]? =some v) :w.cell? ⟨g,0+j*8+q,none⟩ =some v:=by
 have:=h.cells rfl _ v (jil (Rk a b) hp hv)
 rw [Q1] at this
 rw [jjP] at this⊢
 exact this
theorem jf2 {w0:Bs} {Rs:List Res} {T g:Nat} (hk:Rs[k]? =some (J3 B T 8 m (l.flatMap (stC a b)) (some ⟨g,0,none⟩,c))) (hj:j<l.length) :∀w',St w0 Rs w'→∀q v,[Value.int .i64 (px l j),Value.int .i64 (py l j)][q]? =some v→w'.cell? ⟨g,0+j*8+0+q,none⟩ =some v:=fun w' hs q v hv=>by
 have hp:l[j]? =some (pt l j) :=by rw [List.getElem?_eq_getElem hj,Kg]
 rw [jk7]
 refine jdP (hs.all k _ hk).1 hp ?_
 match q,hv with
 | 0,hv=>exact hv
 | 1,hv=>exact hv
theorem jhS {U g:Nat} (h:w.ownsRow B U 8 (.slice (some ⟨g,0,none⟩) m c) m xs) :g<w.heap.size:= (h.lt g rfl).2
theorem S0 (a b:Pn) (A:Option Addr) (n c:Nat) (hot:List Pn) (w:World) (h:Pts w A n hot) (ha:wW a.1 a.2=true) (hb:wW b.1 b.2=true) (hh:∀p∈hot,wW p.1 p.2=true) (hn:n≤1048576) :
  Calls Tryz.prog 216 #[pV a,pV b, .slice A n c] w fun e w'=>∃v,e= .returned v∧w'.ownsRow w.heap.size 28 2 v (qC a b hot).length ((qC a b hot).flatMap Jr)∧Over w w':=by
 have hl:=h.1
 have ha2:bd2 a:=UH ha
 have hb2:bd2 b:=UH hb
 have hp2:∀p∈hot,bd2 p:=fun p hp=>UH (hh p hp)
 obtain ⟨⟨a1,a2⟩,a3,a4⟩ :=id ha2
 obtain ⟨⟨b1',b2'⟩,b3',b4'⟩ :=id hb2
 have hsl2:∀k,(wm a b (hot.take k)).length≤1048576:=fun k=>by have:=GQ a b (hot.take k);rw [jjC] at this;omega
 have hsp:∀p∈hot,bdP (J4 a b p) :=fun p hp=>FB ha2 hb2 (hp2 p hp)
 rw [Wg]
 refine j6 (m:=121) (Tryz.func216) J J (lb J) ?_;refine S3 ?_;refine aX (fun b1=> ?_);refine N1 ?_;refine aX (fun b2=> ?_);refine N5 ?_;refine Jy J J (uv) J (lb J) (fun b3=> ?_);refine Wi 2 8 J J ?_;refine N7 ?_;refine Jy J J (V0 J J) J (lb J) (fun b4=> ?_);refine n9 ?_;refine a9 (jM Xb J J (fun w1 hs=>jcd _ a b w1 (jdE (k:=3) _ J J w1 hs))) ?_;refine S4 ?_;refine aL (fun b5=> ?_);refine N1 ?_;refine aL (fun b6=> ?_);refine N11 ?_;refine JX (X:=Nat×Option Addr×Nat) (fun x=>x.1≤n) (fun x=>n- x.1) (fun x=> [(7, .slice x.2.1 (wm a b (hot.take x.1)).length x.2.2),(10, .int .i64 (x.1:Int))]) (kK [2,3,4,6,8,9]) (fun x=> [.cel b1 28 [.int .i64 a.1, .int .i64 a.2], .cel b2 28 [.int .i64 b.1, .int .i64 b.2],J3 (Bs.N ⟨w,[]⟩) 279 8 (wm a b (hot.take x.1)).length ((wm a b (hot.take x.1)).flatMap (stC a b)) x.2, .cel b4 28 [.int .i64 a.1, .int .i64 a.2, .int .i64 b.1, .int .i64 b.2], .cel b5 28 [.int .i64 (min a.1 b.1), .int .i64 (min a.2 b.2)], .cel b6 28 [.int .i64 (max a.1 b.1), .int .i64 (max a.2 b.2)]]) (0,some ⟨b3,0,none⟩,0) (jjo _) ⟨J,sz⟩ (fun _ h=>h) ?_
 intro⟨i,rA,rc⟩ hx L hL1
 refine v9 ?_;refine r9 ?_
 have hi:i≤n:=hx
 obtain ⟨S,hS⟩ :∃S,S=wm a b (hot.take i) :=⟨_,rfl⟩
 obtain ⟨k,hk⟩ :∃k,k=S.length:=⟨_,rfl⟩
 have hk20:k≤1048576:= (by rw [hk,hS];exact hsl2 i)
 have hsrt:UU (KQ a b) S:= (by rw [hS];exact ZL a b _)
 have hSm:∀q∈S,q∈hot:= (fun q hq=>jj6 (jej (hS▸hq)))
 rw [←hS,←hk]
 refine S8 ?_;refine cZ (fun c1=> ?_) (fun c1=> ?_)
 ·have hlt:i<n:=Om
  obtain ⟨eb,eo,rfl,_⟩ :=h.2 Om
  have hpm:pt hot i∈hot:= (by rw [←Kg Om];exact jju _)
  obtain ⟨⟨p1,p2⟩,p3,p4⟩ :=hp2 _ hpm
  refine kL (fun w hs=>Uo (hs.all 2 _ J).1) ?_
  intro hcap
  refine S9 ?_;refine a9 (jl J J jk J (wQ (b:=eb) (o:=eo) h hlt)) ?_;refine S1 ?_;refine aL (fun b7=> ?_);refine N4 ?_;refine qt [(65, .bool (!(yv a b (pt hot i) &&zF a b (pt hot i))))] (kK [2,3,4,6,8,9,7,10,26,27,28,29,32,33,34,35,11]) (fun L h_7=> ?_) ?_
  ·refine S8 ?_;refine cV 42 (fun g1=> ?_) (fun g1=> ?_)
   ·refine S24 ?_
    exact Jo h_7 ⟨vb (jbQ (Sa (p:=pt hot i) g1)).symm,sz⟩ (u9 J)
   ·refine S14 ?_;refine cV 50 (fun g2=> ?_) (fun g2=> ?_)
    ·refine S16 ?_
     exact Jo h_7 ⟨vb (jbQ (E9 (p:=pt hot i) g2)).symm,sz⟩ (u9 J)
    ·refine S14 ?_;refine cV 58 (fun g3=> ?_) (fun g3=> ?_)
     ·refine S8 ?_
      exact Jo h_7 ⟨vb (jg3 (jbR (p:=pt hot i) g3)).symm,sz⟩ (u9 J)
     ·refine S14 ?_
      exact Jo h_7 ⟨vb (jab (p:=pt hot i) (XK g1 g2) g3),sz⟩ (u9 J)
  ·refine v9 ?_;refine cZ (fun c2=> ?_) (fun c2=> ?_)
   ·refine S9 ?_
    exact Jq hL1 ((i+1,rA,rc)) ((show i+1≤n by omega)) (by simp only;omega) ⟨(by rw [MV Om (Fx c2),←hS,←hk];rfl),vi Om,sz⟩ (fun _ h=>h.upto ⟨J,J,by rw [MV Om (Fx c2),←hS,←hk],sz⟩)
   ·refine S7 ?_;refine a9 (jM Gm J J (fun w1 hs=>SY a b (pt hot i) w1 ha hb (hh _ hpm))) ?_;refine S4 ?_;refine aL (fun b8=> ?_);refine N10 ?_;refine cZ (fun c3=> ?_) (fun c3=> ?_)
    ·refine S9 ?_
     exact Jq hL1 ((i+1,rA,rc)) ((show i+1≤n by omega)) (by simp only;omega) ⟨(by rw [MV Om (Gx c3),←hS,←hk];rfl),vi Om,sz⟩ (fun _ h=>h.upto ⟨J,J,by rw [MV Om (Gx c3),←hS,←hk],sz⟩)
    ·rw [jhk c3]
     refine S10 ?_;refine qv (X:=Nat) (fun j=>j≤k∧∀q∈S.drop j,KQ a b (pt hot i) q=true) (fun j=>j) (fun j=> [(14, .int .i64 (j:Int))]) (kK [2,3,4,6,8,9,7,10,26,27,28,29,32,33,34,35,11,65,67,68,69,70,66,71,72,12,13,73,74,75,76]) k (⟨jjm _,fun q hq=>by rw [jkg Om] at hq;cases hq⟩) ⟨rfl,sz⟩ ?_
     intro j hj L hL2
     refine v9 ?_
     obtain ⟨hjk,hjq⟩ :=hj
     refine S1 ?_;refine qt [(86, .bool (decide (0<j) &&Fn a b (pt hot i) S j))] (kK [2,3,4,6,8,9,7,10,26,27,28,29,32,33,34,35,11,65,67,68,69,70,66,71,72,12,13,73,74,75,76,14]) (fun L h_11=> ?_) ?_
     ·refine S4 ?_;refine cV 79 (fun g4=> ?_) (fun g4=> ?_)
      ·have hj0:0<j:=Om
       refine kL (fun w hs=>wH (k:=2) J hs Om) ?_
       rintro⟨eg,rfl⟩
       obtain ⟨q,hq⟩ :∃q,S[j- 1]? =some q:=⟨_,List.getElem?_eq_getElem Om⟩
       have hqm:q∈S:=List.mem_of_getElem? hq
       refine S5 ?_;refine o9 ((JF J J J Om Om).as (congrArg _ (show((j:Int) - 1) = ((j- 1:Nat) :Int) by omega))) ?_;refine h9 ?_;refine o9 (jV (j:=j- 1) J J J Qj Om) ?_;refine S3 ?_;refine o9 (jM Gq J J (fun w1 hs=>Dv _ 0 eg (0+ (j- 1) *8+2) (J4 a b (pt hot i)) (J4 a b q) w1 (fun r v hv=>jR (k:=7) J w1 hs r v hv) (JT (hs.cel (k:=7) J)) (fun r v hv=>by rw [show 0+ (j- 1) *8+2+r=0+ (j- 1) *8+ (2+r) by omega];exact jdP (hs.all 2 _ J).1 hq (by rw [Nat.add_comm];exact hv)) (jhS (hs.all 2 _ J).1) (hsp _ hpm) (hsp q (hSm q hqm)))) ?_;refine S2 ?_
       exact Jo h_11 ⟨vb (by rw [show decide (0<j) =true from decide_eq_true hj0,jjG,Fn,hq];rfl),sz⟩ (u9 J)
      ·refine S8 ?_
       exact Jo h_11 ⟨vb (by rw [show decide (0<j) =false from decide_eq_false Om,jjU]),sz⟩ (u9 J)
     ·refine v9 ?_;refine cZ (fun c4=> ?_) (fun c4=> ?_)
      ·simp only [jjl,decide_eq_true_eq] at c4
       obtain ⟨hj0,hle⟩ :=c4
       refine S10 ?_
       exact qf hL2 (j- 1) (⟨by omega,fun q hq=>Pk Om hj0 hle hjq q hq⟩) Om ⟨vi Om,sz⟩ (u9 J)
      ·have hins:wd (KQ a b) (pt hot i) S=S.take j++pt hot i::S.drop j:=CF (Y4 a b) hsrt Om hjq (Pl Om c4)
       have hnew:wm a b (hot.take (i+1)) =S.take j++pt hot i::S.drop j:= (by rw [jek Om (Py c2 c3),←hS,hins])
       have hnl: (wm a b (hot.take (i+1))).length=0+j+1+ (k- j) := (by rw [hnew];simp;omega)
       refine S8 ?_;refine Jy J J (uv) J (lb J) (fun b9=> ?_);refine Wi 8 8 J J ?_;refine N2 ?_;refine a9 (Kv J J J Qj Om) ?_;refine S1 ?_;refine JY (k:=8) J Qj uT Dc J Dc J J J (fun w' hs=>jee (hs.all 2 _ J).1 hjk) ((fun u hu=>EG a b S u (jj6 hu))) (by unfold maxLen;omega) Om (jjm _) (fun r1=> ?_);refine N7 ?_;refine a9 (JR J J (zT J J)) ?_;refine S1 ?_;refine Jy J J (yZ J) J (lb J) (fun b10=> ?_);refine N1 ?_;refine JY (k:=8) J Qj uT Dc J Dc J J J (fun w' hs=>Qb hs (k:=9) J J) (by simp [Value.oneCell']) (by unfold maxLen;omega) Om (jjm _) (fun r2=> ?_);refine N6 ?_;refine a9 (VM J J J Qj Om) ?_;refine S1 ?_;refine JY (k:=8) J Qj uT Dc J Dc J J J (fun w' hs=>jef (hs.all 2 _ J).1 hjk) ((fun u hu=>EG a b S u (jkf hu))) (by unfold maxLen;omega) Om (jjm _) (fun r3=> ?_);refine N9 ?_
       exact Jq hL1 ((i+1,r3)) ((show i+1≤n by omega)) (by simp only;omega) ⟨(by rw [hnl];rfl),vi Om,sz⟩ (fun _ h=> (h.picks [0,1,8,3,4,5] Dc).upto ⟨J,J,by rw [hnl,hnew,jfe (Rk a b) S j Om,jfd (Rk a b) S j Om,jjv,jjH,←jjq];rfl,sz⟩)
 ·have hin:i=n:=Om
  subst hin
  have hSa:S=wm a b hot:= (by rw [hS,jjR Om])
  rw [←hSa]
  refine S8 ?_;refine Jy J J (KR) J (lb J) (fun b11=> ?_);refine Wi 6 2 J J ?_;refine N8 ?_;refine JX (X:=Nat×Option Addr×Nat) (fun y=>y.1≤k) (fun y=>k- y.1) (fun y=> [(16, .slice y.2.1 y.1 y.2.2),(17, .int .i64 (y.1:Int))]) (kK [6,7]) (fun y=> [.cel b1 28 [.int .i64 a.1, .int .i64 a.2], .cel b2 28 [.int .i64 b.1, .int .i64 b.2],J3 (Bs.N ⟨w,[]⟩) 279 8 k (S.flatMap (stC a b)) (rA,rc), .cel b4 28 [.int .i64 a.1, .int .i64 a.2, .int .i64 b.1, .int .i64 b.2], .cel b5 28 [.int .i64 (min a.1 b.1), .int .i64 (min a.2 b.2)], .cel b6 28 [.int .i64 (max a.1 b.1), .int .i64 (max a.2 b.2)],J3 (Bs.N ⟨w,[]⟩) 28 2 y.1 ((S.take y.1).flatMap Jr) y.2]) (0,some ⟨b11,0,none⟩,0) (jjo _) ⟨J,sz⟩ (fun _ h=>h) ?_
  intro⟨j,qA,qc⟩ hy L hL3
  refine v9 ?_;refine r9 ?_
  have hj:j≤k:=hy
  refine S8 ?_;refine cZ (fun c5=> ?_) (fun c5=> ?_)
  ·have hlt:j<k:=Om
   refine kL (fun w hs=>wH (k:=2) J hs Om) ?_
   rintro⟨eg,rfl⟩
   have hpj:S[j]? =some (pt S j) := (by rw [List.getElem?_eq_getElem Om,Kg])
   refine S8 ?_;refine a9 (jV (j:=j) J J J Qj Om) ?_;refine S1 ?_;refine a9 (jl J J jk J (jf2 (k:=2) J Om)) ?_;refine S1 ?_;refine Jy J J (qT J) J (lb J) (fun b12=> ?_);refine N1 ?_;refine JY (k:=6) J jD jI Dc J Dc J J J (fun w' hs=>Qb hs (k:=7) J J) (by simp [Value.oneCell']) (by unfold maxLen;omega) Om (jjm _) (fun r4=> ?_);refine N9 ?_
   exact Jq hL3 ((j+1,r4)) ((show j+1≤k by omega)) (by simp only;omega) ⟨J,vi Om,sz⟩ (fun _ h=>h.upto ⟨J,J,J,J,J,J,by rw [GR Om,jjv];rfl,trivial⟩)
  ·have hje:j=k:=Om
   subst hje
   rw [jjR Om]
   refine S11 ?_;refine jK J (.tmp J) ?_
   intro w' hs
   have hr:=hs.all 6 _ rfl
   exact⟨_,rfl,vy (by rw [←hk];exact hr.1) (fun b hb=> (hr.2.1 b hb).elim id (fun h=>by cases h)),hs.fin⟩
end Go.Proofs.YtbahojdbmmjkcaaGreat
