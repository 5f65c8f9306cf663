import Derived.Test.YtbahojdbmmjkcaaGreatPPathP
set_option linter.unusedVariables false
set_option linter.unusedSimpArgs false
namespace Go.Proofs.YtbahojdbmmjkcaaGreat
open Go Go.RowKit
variable {A:Option Addr} {B c j k m:Nat} {a b p:Pn} {l ys:List Pn} {v:Value} {w:World} {xs:List Value}
set_option maxRecDepth 100000
set_option maxHeartbeats 4000000
section
variable {α:Type} {f:α→List Value} {s:Nat}
theorem DP (hf:∀e,(f e).length=s) (l:List α) : (l.flatMap f).length=l.length*s:=by
 induction l with
 | nil=>simp
 | cons e l ih=>rw [jgU,jgv,ih,hf,jgD,Nat.succ_mul,Nat.add_comm]
theorem jcY (hf:∀e,(f e).length=s) (l:List α) (k:Nat) (hk:k≤l.length) : (l.flatMap f).take (k*s) = (l.take k).flatMap f:=by
 conv=>lhs;rw [←jgI k l]
 rw [jgG,List.take_append_of_le_length (by rw [DP hf,jgJ,jhu hk];exact jgx _),jgR (by rw [DP hf,jgJ,jhu hk];exact jgx _)]
theorem jcX (hf:∀e,(f e).length=s) (l:List α) (k:Nat) (hk:k≤l.length) : (l.flatMap f).drop (k*s) = (l.drop k).flatMap f:=by
 conv=>lhs;rw [←jgI k l]
 have hl: ((l.take k).flatMap f).length=k*s:=by rw [DP hf,jgJ,jhu hk]
 rw [jgG,←hl,List.drop_left]
theorem jfK (hf:∀e,(f e).length=s) {l:List α} {i:Nat} {e:α} (h:l[i]? =some e) (hv: (f e)[j]? =some v) : (l.flatMap f)[i*s+j]? =some v:=by
 obtain ⟨hi,rfl⟩ :=List.getElem?_eq_some_iff.1 h
 have hj:= (List.getElem?_eq_some_iff.1 hv).1
 have e1:l=l.take i++ (l[i] ::l.drop (i+1)) :=by rw [←jg3 hi,jgI]
 have hl: ((l.take i).flatMap f).length=i*s:=by rw [DP hf,jgJ,jhu Om]
 have e2:l.flatMap f= (l.take i).flatMap f++ (f l[i] ++ (l.drop (i+1)).flatMap f) :=by
  conv=>lhs;rw [e1]
  rw [jgG,jgU]
 rw [e2,List.getElem?_append_right (by rw [hl];omega),hl,Nat.add_sub_cancel_left,List.getElem?_append_left hj]
 exact hv
end
theorem jcb {U s:Nat} (h:w.ownsRow B U s (.slice A m c) m xs) (hk:k≤m) :Src s (sliced A 0 k c s) k (xs.take (k*s)) w:=by
 have hlen:=h.1
 refine⟨by rw [jgJ,hlen,jhu (Nat.mul_le_mul_right _ hk)],?_⟩
 rcases h.2 with⟨e,e2⟩ |⟨g,cap,cur,e,hb,hg,hcap,_⟩
 ·injection e with e1 e3 e4
  subst e1 e2 e4
  obtain rfl:k=0:=by omega
  exact .inl ⟨rfl,rfl⟩
 ·injection e with e1 e3 e4
  subst e1 e4
  rw [w6]
  refine .inr ⟨_,_,J,fun j u hu=>h.cells J j u ?_⟩
  rw [List.getElem?_take] at hu
  split at hu
  ·exact hu
  ·cases hu
theorem jcc {U s:Nat} (h:w.ownsRow B U s (.slice A m c) m xs) (hk:k≤m) :Src s (sliced A k m c s) (m- k) (xs.drop (k*s)) w:=by
 have hlen:=h.1
 refine⟨by rw [jgQ,hlen,Nat.mul_sub_right_distrib],?_⟩
 rcases h.2 with⟨e,e2⟩ |⟨g,cap,cur,e,hb,hg,hcap,_⟩
 ·injection e with e1 e3 e4
  subst e1 e2 e4
  obtain rfl:k=0:=by omega
  exact .inl ⟨rfl,rfl⟩
 ·injection e with e1 e3 e4
  subst e1 e4
  rw [ut hcap hk]
  refine .inr ⟨_,_,J,fun j u hu=> ?_⟩
  rw [List.getElem?_drop] at hu
  have:=h.cells rfl _ u hu
  rw [QJ] at this⊢
  rw [←this]
  congr 2
  unfold Ys
  have hj:= (List.getElem?_eq_some_iff.1 hu).1
  have hks:k*s+j<m*s:=by omega
  have hkc:¬c=k:=fun e=>by
   subst e
   have:m=c:=by omega
   subst this
   omega
  rw [if_neg hkc]
  omega
def zm (s x:Sp) :Bool:=decide (s.ln*x.ld- x.ln*s.ld<0) || (decide (s.ln*x.ld- x.ln*s.ld=0) &&s.lc&& !x.lc)
theorem PD (a b p q:Pn) :Qu vL (O4 a b p) (O4 a b q) =zm (J4 a b p) (J4 a b q) :=by
 rw [jhc,Qu,decide_eq_true_eq,Bg]
 unfold jaP zm O4
 simp only [jhg,jgy,decide_eq_true_eq,jhe]
 constructor
 ·rintro(h |⟨h1,h2,h3⟩)
  ·exact .inl Om
  ·exact .inr ⟨⟨by omega,h2⟩,h3⟩
 ·rintro(h |⟨⟨h1,h2⟩,h3⟩)
  ·exact .inl Om
  ·exact .inr ⟨by omega,h2,h3⟩
def VW (a b p q:Pn) :Bool:=zm (J4 a b p) (J4 a b q)
theorem MR (a b:Pn) :Weak (VW a b) :=by
 have:=PP.by (O4 a b)
 have e: (fun x y=>Qu vL (O4 a b x) (O4 a b y)) =VW a b:=by funext p q;exact PD a b p q
 rwa [e] at this
def Vf (a b:Pn) (l:List Pn) :List Pn:=kG (VW a b) (l.filter (KK a b))
theorem W3 (a b:Pn) (hot:List Pn) :Qi a b hot=Vf a b hot:=by
 unfold Qi Vf KD
 rw [FQ (lt:=VW a b) (fun p _ q _=>PD a b p q),List.map_map]
 exact List.map_id' _
theorem Lj (hk:k<ys.length) (h:KK a b (pt ys k) =false) :Vf a b (ys.take (k+1)) =Vf a b (ys.take k) :=by
 unfold Vf
 rw [Xq hk,jhX]
 simp [h]
theorem jch (hk:k<ys.length) (h:KK a b (pt ys k) =true) :Vf a b (ys.take (k+1)) =VQ (VW a b) (pt ys k) (Vf a b (ys.take k)) :=by
 unfold Vf
 rw [Xq hk,jhX,show [pt ys k].filter (KK a b) = [pt ys k] by simp [h],M1]
theorem Xo (a b:Pn) (l:List Pn) : (Vf a b l).length≤l.length:=by
 unfold Vf
 rw [Qh]
 exact jhZ _ _
theorem jcg (h:p∈Vf a b l) :p∈l:=by
 unfold Vf at h
 rw [zN] at h
 exact(jh2.1 h).1
def stC (a b p:Pn) :List Value:= [.int .i64 p.1, .int .i64 p.2, .int .i64 (J4 a b p).ln, .int .i64 (J4 a b p).ld, .int .i64 (J4 a b p).hn, .int .i64 (J4 a b p).hd, .bool (J4 a b p).lc, .bool (J4 a b p).hc]
theorem FR (a b p:Pn) : (stC a b p).length=8:=rfl
theorem PH (a b:Pn) (l:List Pn) :∀u∈l.flatMap (stC a b),u.oneCell'=true:=fun u hu=>by
 obtain ⟨p,_,hu⟩ :=jh3.1 hu
 simp only [stC,jgK,jhz,or_false] at hu
 rcases hu with rfl | rfl | rfl | rfl | rfl | rfl | rfl | rfl<;>rfl
theorem OI (b1 o1 b2 o2:Nat) (s x:Sp) (w:World) (h1:∀q v,(spC s)[q]? =some v→w.cell? ⟨b1,o1+q,none⟩ =some v) (hb1:b1<w.heap.size) (h2:∀q v,(spC x)[q]? =some v→w.cell? ⟨b2,o2+q,none⟩ =some v) (hb2:b2<w.heap.size) (hs:bdP s) (hx:bdP x) :
  Calls Tryz.prog 250 #[.pointer (some ⟨b1,o1,none⟩), .pointer (some ⟨b2,o2,none⟩)] w fun e w'=>e= .returned (.bool (zm s x))∧Over w w':=by
 obtain ⟨m1,m2⟩ :=Dx hs.low hx.low
 refine jT (m:=44) (Tryz.func250) J J (lb J) ?_;refine S6 ?_;refine JS 20 ?_;refine dK 0 ?_;refine dK 1 ?_;refine dK 2 ?_;refine dZ 3 rfl (jl rfl rfl jt (by first | exact qP (h1 0 _ rfl) hb1 | exact qP (h1 1 _ rfl) hb1 | exact qP (h1 4 _ rfl) hb1 | exact qP (h2 0 _ rfl) hb2 | exact qP (h2 1 _ rfl) hb2 | exact qP (h2 4 _ rfl) hb2)) ?_;refine dK 4 ?_;refine dK 5 ?_;refine dK 6 ?_;refine dZ 7 rfl (jl rfl rfl jt (by first | exact qP (h1 0 _ rfl) hb1 | exact qP (h1 1 _ rfl) hb1 | exact qP (h1 4 _ rfl) hb1 | exact qP (h2 0 _ rfl) hb2 | exact qP (h2 1 _ rfl) hb2 | exact qP (h2 4 _ rfl) hb2)) ?_;refine dK 8 ?_;refine dK 9 ?_;refine dK 10 ?_;refine dK 11 ?_;refine dZ 12 rfl (jl rfl rfl jt (by first | exact qP (h1 0 _ rfl) hb1 | exact qP (h1 1 _ rfl) hb1 | exact qP (h1 4 _ rfl) hb1 | exact qP (h2 0 _ rfl) hb2 | exact qP (h2 1 _ rfl) hb2 | exact qP (h2 4 _ rfl) hb2)) ?_;refine dK 13 ?_;refine dK 14 ?_;refine dK 15 ?_;refine dZ 16 rfl (jl rfl rfl jt (by first | exact qP (h1 0 _ rfl) hb1 | exact qP (h1 1 _ rfl) hb1 | exact qP (h1 4 _ rfl) hb1 | exact qP (h2 0 _ rfl) hb2 | exact qP (h2 1 _ rfl) hb2 | exact qP (h2 4 _ rfl) hb2)) ?_;refine dK 17 ?_;refine dK 18 ?_;refine dK 19 ?_;refine JI Kr ?_;refine S6 ?_;refine cV 27 (fun g1=> ?_) (fun g1=> ?_)
 ·refine S19 ?_;refine jL J (.tmp J) ?_
  intro w' hs
  exact⟨Qs (by unfold zm;simp_all),hs.fin⟩
 ·refine S6 ?_;refine cV 30 (fun g2=> ?_) (fun g2=> ?_)
  ·refine S7 ?_;refine o9 (jl rfl rfl Qv (by first | exact qP (h1 0 _ rfl) hb1 | exact qP (h1 1 _ rfl) hb1 | exact qP (h1 4 _ rfl) hb1 | exact qP (h2 0 _ rfl) hb2 | exact qP (h2 1 _ rfl) hb2 | exact qP (h2 4 _ rfl) hb2)) ?_;refine S4 ?_;refine cV 36 (fun g3=> ?_) (fun g3=> ?_)
   ·refine S7 ?_;refine o9 (jl rfl rfl Qv (by first | exact qP (h1 0 _ rfl) hb1 | exact qP (h1 1 _ rfl) hb1 | exact qP (h1 4 _ rfl) hb1 | exact qP (h2 0 _ rfl) hb2 | exact qP (h2 1 _ rfl) hb2 | exact qP (h2 4 _ rfl) hb2)) ?_;refine S8 ?_;refine jL J (.tmp J) ?_
    intro w' hs
    exact⟨Qs (by unfold zm;simp_all),hs.fin⟩
   ·refine S11 ?_;refine jL J (.tmp J) ?_
    intro w' hs
    exact⟨Qs (by unfold zm;simp_all),hs.fin⟩
  ·refine S19 ?_;refine jL J (.tmp J) ?_
   intro w' hs
   exact⟨Qs (by unfold zm;simp_all),hs.fin⟩
theorem E0 (b3:Nat) (a b:Pn) (w:World) (h:Pts w (some ⟨b3,0,none⟩) 2 [a,b]) :Calls Tryz.prog 96 #[.slice (some ⟨b3,0,none⟩) 2 2] w fun e w'=>e= .returned (.tuple #[WH (min a.1 b.1) (min a.2 b.2),WH (max a.1 b.1) (max a.2 b.2)])∧Over w w':=by
 have:=L5 _ 2 2 [a,b] w h Dc Dc
 exact this
def inS (a b p:Pn) :Sp:=if(Kk (2*a.1) (2* (b.1- a.1)) (2*p.1- 1) &&Kk (2*a.2) (2* (b.2- a.2)) (2*p.2- 1)) =true then J4 a b p else Wi
theorem jeU (h:WZ a b p=true) :inS a b p=J4 a b p:=by
 unfold WZ xt at h
 rw [jgy] at h
 exact if_pos h.1
theorem Rk (a b p:Pn) (w:World) (ha:wF a.1 a.2=true) (hb:wF b.1 b.2=true) (hp:wF p.1 p.2=true) :
  Calls Tryz.prog 249 #[pV a,pV b,pV p] w fun e w'=>e= .returned (.tuple #[C9 (inS a b p), .bool (WZ a b p)])∧Over w w':=
 OH a.1 a.2 b.1 b.2 p.1 p.2 w ha hb hp
theorem EH (h:UR a b p=false) : (!(UR a b p&&YF a b p)) =true:=by rw [h];rfl
theorem jeE (h:YF a b p=false) : (!(UR a b p&&YF a b p)) =true:=by rw [h,Bool.and_false];rfl
theorem xf (h1:min a.1 b.1- 1≤p.1) (h2:p.1≤max a.1 b.1+1) :UR a b p=true:=by unfold UR;rw [decide_eq_false (jhG.2 h1),decide_eq_false (jhG.2 h2)];rfl
theorem P6 (h:p.1>max a.1 b.1+1) :UR a b p=false:=by unfold UR;rw [decide_eq_true h,Bool.or_true];rfl
theorem EI (h:p.2<min a.2 b.2- 1) :YF a b p=false:=by unfold YF;rw [decide_eq_true h];rfl
theorem P8 (hx:UR a b p=true) (h:min a.2 b.2- 1≤p.2) :decide (p.2>max a.2 b.2+1) = !(UR a b p&&YF a b p) :=by rw [hx,jg2];unfold YF;rw [decide_eq_false (jhG.2 h),Bool.false_or,Bool.not_not]
theorem BR (h: (UR a b p&&YF a b p) =false) :KK a b p=false:=by
 unfold KK
 rw [h,jhd]
theorem Tm (h: (UR a b p&&YF a b p) =true) (hi:WZ a b p=true) :KK a b p=true:=by
 unfold KK
 rw [h,hi]
 rfl
def BC (a b:Pn) (p:Pn) (l:List Pn) (j:Nat) :Bool:=match l[j- 1]? with
 | some q=>VW a b p q
 | none=>false
theorem Td (hj:j≤l.length) (hj0:0<j) (hle:BC a b p l j=true) (h:∀q∈l.drop j,VW a b p q=true) :∀q∈l.drop (j- 1),VW a b p q=true:=fun q hq=>by
 rw [jg3 Om,show j- 1+1=j by omega] at hq
 rcases jgK.1 hq with rfl | hq
 ·unfold BC at hle
  rw [List.getElem?_eq_getElem Om] at hle
  exact hle
 ·exact h q hq
theorem Te (hj:j≤l.length) (h: (decide (0<j) &&BC a b p l j) =false) :j=0∨∃q,l[j- 1]? =some q∧VW a b p q=false:=by
 by_cases h0:0<j
 ·rw [decide_eq_true h0,jg2] at h
  refine .inr ⟨l[j- 1]'(by omega),List.getElem?_eq_getElem Om,?_⟩
  unfold BC at h
  rw [List.getElem?_eq_getElem Om] at h
  exact h
 ·exact .inl Om
theorem M5 (a b:Pn) (l:List Pn) :Ub (VW a b) (Vf a b l) :=V4 (MR a b) _
theorem jbL {T g:Nat} (h:w.ownsRow B T 8 (.slice (some ⟨g,0,none⟩) m c) m (l.flatMap (stC a b))) (hp:l[j]? =some p) {q:Nat} (hv: (stC a b p)[q]? =some v) :w.cell? ⟨g,0+j*8+q,none⟩ =some v:=by
 have:=h.cells rfl _ v (jfK (FR a b) hp hv)
 rw [QJ] at this
 rw [jgT] at this⊢
 exact this
theorem jdI {w0:Bs} {Rs:List Res} {T g:Nat} (hk:Rs[k]? =some (JQ B T 8 m (l.flatMap (stC a b)) (some ⟨g,0,none⟩,c))) (hj:j<l.length) :∀w',St w0 Rs w'→∀q v,[Value.int .i64 (px l j),Value.int .i64 (py l j)][q]? =some v→w'.cell? ⟨g,0+j*8+0+q,none⟩ =some v:=fun w' hs q v hv=>by
 have hp:l[j]? =some (pt l j) :=by rw [List.getElem?_eq_getElem hj,Kl]
 rw [jhV]
 refine jbL (hs.all k _ hk).1 hp ?_
 match q,hv with
 | 0,hv=>exact hv
 | 1,hv=>exact hv
theorem jfs {U g:Nat} (h:w.ownsRow B U 8 (.slice (some ⟨g,0,none⟩) m c) m xs) :g<w.heap.size:= (h.lt g rfl).2
theorem Rl (a b:Pn) (A:Option Addr) (n c:Nat) (hot:List Pn) (w:World) (h:Pts w A n hot) (ha:wF a.1 a.2=true) (hb:wF b.1 b.2=true) (hh:∀p∈hot,wF p.1 p.2=true) (hn:n≤1048576) :
  Calls Tryz.prog 216 #[pV a,pV b, .slice A n c] w fun e w'=>∃v,e= .returned v∧w'.ownsRow w.heap.size 28 2 v (Qi a b hot).length ((Qi a b hot).flatMap Ju)∧Over w w':=by
 have hl:=h.1
 have ha2:bd2 a:=yM ha
 have hb2:bd2 b:=yM hb
 have hp2:∀p∈hot,bd2 p:=fun p hp=>yM (hh p hp)
 obtain ⟨⟨a1,a2⟩,a3,a4⟩ :=id ha2
 obtain ⟨⟨b1',b2'⟩,b3',b4'⟩ :=id hb2
 have hsl2:∀k,(Vf a b (hot.take k)).length≤1048576:=fun k=>by have:=Xo a b (hot.take k);rw [jgJ] at this;omega
 have hsp:∀p∈hot,bdP (J4 a b p) :=fun p hp=>BV ha2 hb2 (hp2 p hp)
 rw [W3]
 refine jT (m:=121) (Tryz.func216) J J (lb J) ?_;refine S3 ?_;refine aX (fun b1=> ?_);refine N1 ?_;refine aX (fun b2=> ?_);refine N5 ?_;refine Jw J J (Wj) J (lb J) (fun b3=> ?_);refine vK 2 8 J J ?_;refine N7 ?_;refine Jw J J (vT J J) J (lb J) (fun b4=> ?_);refine n9 ?_;refine a9 (jJ ZN J J (fun w1 hs=>E0 _ a b w1 (jbz (k:=3) _ J J w1 hs))) ?_;refine S4 ?_;refine aL (fun b5=> ?_);refine N1 ?_;refine aL (fun b6=> ?_);refine N11 ?_;refine JN (X:=Nat×Option Addr×Nat) (fun x=>x.1≤n) (fun x=>n- x.1) (fun x=> [(7, .slice x.2.1 (Vf a b (hot.take x.1)).length x.2.2),(10, .int .i64 (x.1:Int))]) (kK [2,3,4,6,8,9]) (fun x=> [.cel b1 28 [.int .i64 a.1, .int .i64 a.2], .cel b2 28 [.int .i64 b.1, .int .i64 b.2],JQ (Bs.N ⟨w,[]⟩) 279 8 (Vf a b (hot.take x.1)).length ((Vf a b (hot.take x.1)).flatMap (stC a b)) x.2, .cel b4 28 [.int .i64 a.1, .int .i64 a.2, .int .i64 b.1, .int .i64 b.2], .cel b5 28 [.int .i64 (min a.1 b.1), .int .i64 (min a.2 b.2)], .cel b6 28 [.int .i64 (max a.1 b.1), .int .i64 (max a.2 b.2)]]) (0,some ⟨b3,0,none⟩,0) (jgw _) ⟨J,sz⟩ (fun _ h=>h) ?_
 intro⟨i,rA,rc⟩ hx L hL1
 refine v9 ?_;refine r9 ?_
 have hi:i≤n:=hx
 obtain ⟨S,hS⟩ :∃S,S=Vf a b (hot.take i) :=⟨_,rfl⟩
 obtain ⟨k,hk⟩ :∃k,k=S.length:=⟨_,rfl⟩
 have hk20:k≤1048576:= (by rw [hk,hS];exact hsl2 i)
 have hsrt:Ub (VW a b) S:= (by rw [hS];exact M5 a b _)
 have hSm:∀q∈S,q∈hot:= (fun q hq=>jg7 (jcg (hS▸hq)))
 rw [←hS,←hk]
 refine S8 ?_;refine cZ (fun c1=> ?_) (fun c1=> ?_)
 ·have hlt:i<n:=Om
  obtain ⟨eb,eo,rfl,_⟩ :=h.2 Om
  have hpm:pt hot i∈hot:= (by rw [←Kl Om];exact jgH _)
  obtain ⟨⟨p1,p2⟩,p3,p4⟩ :=hp2 _ hpm
  refine Q1 (fun w hs=>W8 (hs.all 2 _ J).1) ?_
  intro hcap
  refine S9 ?_;refine a9 (jk J J jj J (wz (b:=eb) (o:=eo) h hlt)) ?_;refine S1 ?_;refine aL (fun b7=> ?_);refine N4 ?_;refine qn [(65, .bool (!(UR a b (pt hot i) &&YF a b (pt hot i))))] (kK [2,3,4,6,8,9,7,10,26,27,28,29,32,33,34,35,11]) (fun L h_7=> ?_) ?_
  ·refine S8 ?_;refine cV 42 (fun g1=> ?_) (fun g1=> ?_)
   ·refine S24 ?_
    exact Jr h_7 ⟨vb (EH (IB (p:=pt hot i) g1)).symm,sz⟩ (u9 J)
   ·refine S14 ?_;refine cV 50 (fun g2=> ?_) (fun g2=> ?_)
    ·refine S16 ?_
     exact Jr h_7 ⟨vb (EH (P6 (p:=pt hot i) g2)).symm,sz⟩ (u9 J)
    ·refine S14 ?_;refine cV 58 (fun g3=> ?_) (fun g3=> ?_)
     ·refine S8 ?_
      exact Jr h_7 ⟨vb (jeE (EI (p:=pt hot i) g3)).symm,sz⟩ (u9 J)
     ·refine S14 ?_
      exact Jr h_7 ⟨vb (P8 (p:=pt hot i) (xf g1 g2) g3),sz⟩ (u9 J)
  ·refine v9 ?_;refine cZ (fun c2=> ?_) (fun c2=> ?_)
   ·refine S9 ?_
    exact j4 hL1 ((i+1,rA,rc)) ((show i+1≤n by omega)) (by simp only;omega) ⟨(by rw [Lj Om (BR c2),←hS,←hk];rfl),vi Om,sz⟩ (fun _ h=>h.upto ⟨J,J,by rw [Lj Om (BR c2),←hS,←hk],sz⟩)
   ·refine S7 ?_;refine a9 (jJ xV J J (fun w1 hs=>Rk a b (pt hot i) w1 ha hb (hh _ hpm))) ?_;refine S4 ?_;refine aL (fun b8=> ?_);refine N10 ?_;refine cZ (fun c3=> ?_) (fun c3=> ?_)
    ·refine S9 ?_
     exact j4 hL1 ((i+1,rA,rc)) ((show i+1≤n by omega)) (by simp only;omega) ⟨(by rw [Lj Om (x7 c3),←hS,←hk];rfl),vi Om,sz⟩ (fun _ h=>h.upto ⟨J,J,by rw [Lj Om (x7 c3),←hS,←hk],sz⟩)
    ·rw [jeU c3]
     refine S10 ?_;refine J9 (X:=Nat) (fun j=>j≤k∧∀q∈S.drop j,VW a b (pt hot i) q=true) (fun j=>j) (fun j=> [(14, .int .i64 (j:Int))]) (kK [2,3,4,6,8,9,7,10,26,27,28,29,32,33,34,35,11,65,67,68,69,70,66,71,72,12,13,73,74,75,76]) k (⟨jgx _,fun q hq=>by rw [jhq Om] at hq;cases hq⟩) ⟨rfl,sz⟩ ?_
     intro j hj L hL2
     refine v9 ?_
     obtain ⟨hjk,hjq⟩ :=hj
     refine S1 ?_;refine qn [(86, .bool (decide (0<j) &&BC a b (pt hot i) S j))] (kK [2,3,4,6,8,9,7,10,26,27,28,29,32,33,34,35,11,65,67,68,69,70,66,71,72,12,13,73,74,75,76,14]) (fun L h_11=> ?_) ?_
     ·refine S4 ?_;refine cV 79 (fun g4=> ?_) (fun g4=> ?_)
      ·have hj0:0<j:=Om
       refine Q1 (fun w hs=>KX (k:=2) J hs Om) ?_
       rintro⟨eg,rfl⟩
       obtain ⟨q,hq⟩ :∃q,S[j- 1]? =some q:=⟨_,List.getElem?_eq_getElem Om⟩
       have hqm:q∈S:=List.mem_of_getElem? hq
       refine S5 ?_;refine o9 ((JL J J J Om Om).as (congrArg _ (show((j:Int) - 1) = ((j- 1:Nat) :Int) by omega))) ?_;refine h9 ?_;refine o9 (jG (j:=j- 1) J J J q6 Om) ?_;refine S3 ?_;refine o9 (jJ xX J J (fun w1 hs=>OI _ 0 eg (0+ (j- 1) *8+2) (J4 a b (pt hot i)) (J4 a b q) w1 (fun r v hv=>jX (k:=7) J w1 hs r v hv) (JZ (hs.cel (k:=7) J)) (fun r v hv=>by rw [show 0+ (j- 1) *8+2+r=0+ (j- 1) *8+ (2+r) by omega];exact jbL (hs.all 2 _ J).1 hq (by rw [Nat.add_comm];exact hv)) (jfs (hs.all 2 _ J).1) (hsp _ hpm) (hsp q (hSm q hqm)))) ?_;refine S2 ?_
       exact Jr h_11 ⟨vb (by rw [show decide (0<j) =true from decide_eq_true hj0,jg2,BC,hq];rfl),sz⟩ (u9 J)
      ·refine S8 ?_
       exact Jr h_11 ⟨vb (by rw [show decide (0<j) =false from decide_eq_false Om,jhd]),sz⟩ (u9 J)
     ·refine v9 ?_;refine cZ (fun c4=> ?_) (fun c4=> ?_)
      ·simp only [jgy,decide_eq_true_eq] at c4
       obtain ⟨hj0,hle⟩ :=c4
       refine S10 ?_
       exact JY hL2 (j- 1) (⟨by omega,fun q hq=>Td Om hj0 hle hjq q hq⟩) Om ⟨vi Om,sz⟩ (u9 J)
      ·have hins:VQ (VW a b) (pt hot i) S=S.take j++pt hot i::S.drop j:=Nu (MR a b) hsrt Om hjq (Te Om c4)
       have hnew:Vf a b (hot.take (i+1)) =S.take j++pt hot i::S.drop j:= (by rw [jch Om (Tm c2 c3),←hS,hins])
       have hnl: (Vf a b (hot.take (i+1))).length=0+j+1+ (k- j) := (by rw [hnew];simp;omega)
       refine S8 ?_;refine Jw J J (Wj) J (lb J) (fun b9=> ?_);refine vK 8 8 J J ?_;refine N2 ?_;refine a9 (kS J J J q6 Om) ?_;refine S1 ?_;refine JV (k:=8) J q6 WN Dc J Dc J J J (fun w' hs=>jcb (hs.all 2 _ J).1 hjk) ((fun u hu=>PH a b S u (jg7 hu))) (by unfold maxLen;omega) Om (jgx _) (fun r1=> ?_);refine N7 ?_;refine a9 (J0 J J (YE J J)) ?_;refine S1 ?_;refine Jw J J (UU J) J (lb J) (fun b10=> ?_);refine N1 ?_;refine JV (k:=8) J q6 WN Dc J Dc J J J (fun w' hs=>qR hs (k:=9) J J) (by simp [Value.oneCell']) (by unfold maxLen;omega) Om (jgx _) (fun r2=> ?_);refine N6 ?_;refine a9 (vG J J J q6 Om) ?_;refine S1 ?_;refine JV (k:=8) J q6 WN Dc J Dc J J J (fun w' hs=>jcc (hs.all 2 _ J).1 hjk) ((fun u hu=>PH a b S u (jhh hu))) (by unfold maxLen;omega) Om (jgx _) (fun r3=> ?_);refine N9 ?_
       exact j4 hL1 ((i+1,r3)) ((show i+1≤n by omega)) (by simp only;omega) ⟨(by rw [hnl];rfl),vi Om,sz⟩ (fun _ h=> (h.picks [0,1,8,3,4,5] Dc).upto ⟨J,J,by rw [hnl,hnew,jcY (FR a b) S j Om,jcX (FR a b) S j Om,jgG,jgU,←jgB];rfl,sz⟩)
 ·have hin:i=n:=Om
  subst hin
  have hSa:S=Vf a b hot:= (by rw [hS,jgR Om])
  rw [←hSa]
  refine S8 ?_;refine Jw J J (Kn) J (lb J) (fun b11=> ?_);refine vK 6 2 J J ?_;refine N8 ?_;refine JN (X:=Nat×Option Addr×Nat) (fun y=>y.1≤k) (fun y=>k- y.1) (fun y=> [(16, .slice y.2.1 y.1 y.2.2),(17, .int .i64 (y.1:Int))]) (kK [6,7]) (fun y=> [.cel b1 28 [.int .i64 a.1, .int .i64 a.2], .cel b2 28 [.int .i64 b.1, .int .i64 b.2],JQ (Bs.N ⟨w,[]⟩) 279 8 k (S.flatMap (stC a b)) (rA,rc), .cel b4 28 [.int .i64 a.1, .int .i64 a.2, .int .i64 b.1, .int .i64 b.2], .cel b5 28 [.int .i64 (min a.1 b.1), .int .i64 (min a.2 b.2)], .cel b6 28 [.int .i64 (max a.1 b.1), .int .i64 (max a.2 b.2)],JQ (Bs.N ⟨w,[]⟩) 28 2 y.1 ((S.take y.1).flatMap Ju) y.2]) (0,some ⟨b11,0,none⟩,0) (jgw _) ⟨J,sz⟩ (fun _ h=>h) ?_
  intro⟨j,qA,qc⟩ hy L hL3
  refine v9 ?_;refine r9 ?_
  have hj:j≤k:=hy
  refine S8 ?_;refine cZ (fun c5=> ?_) (fun c5=> ?_)
  ·have hlt:j<k:=Om
   refine Q1 (fun w hs=>KX (k:=2) J hs Om) ?_
   rintro⟨eg,rfl⟩
   have hpj:S[j]? =some (pt S j) := (by rw [List.getElem?_eq_getElem Om,Kl])
   refine S8 ?_;refine a9 (jG (j:=j) J J J q6 Om) ?_;refine S1 ?_;refine a9 (jk J J jj J (jdI (k:=2) J Om)) ?_;refine S1 ?_;refine Jw J J (qX J) J (lb J) (fun b12=> ?_);refine N1 ?_;refine JV (k:=6) J jB jH Dc J Dc J J J (fun w' hs=>qR hs (k:=7) J J) (by simp [Value.oneCell']) (by unfold maxLen;omega) Om (jgx _) (fun r4=> ?_);refine N9 ?_
   exact j4 hL3 ((j+1,r4)) ((show j+1≤k by omega)) (by simp only;omega) ⟨J,vi Om,sz⟩ (fun _ h=>h.upto ⟨J,J,J,J,J,J,by rw [Xq Om,jgG];rfl,trivial⟩)
  ·have hje:j=k:=Om
   subst hje
   rw [jgR Om]
   refine S11 ?_;refine jL J (.tmp J) ?_
   intro w' hs
   have hr:=hs.all 6 _ rfl
   exact⟨_,rfl,KN (by rw [←hk];exact hr.1) (fun b hb=> (hr.2.1 b hb).elim id (fun h=>by cases h)),hs.fin⟩
end Go.Proofs.YtbahojdbmmjkcaaGreat
