import Derived.Test.YtbahojdbmmjkcaaGreatSPathP
set_option linter.unusedVariables false
set_option linter.unusedSimpArgs false
namespace Go.Proofs.YtbahojdbmmjkcaaGreat
open Go Go.RowKit
variable {A:Option Addr} {B c j k m:Nat} {a b p:Pn} {l ys:List Pn} {v:Value} {w:World} {xs:List Value}
set_option maxRecDepth 100000
set_option maxHeartbeats 4000000
section
variable {α:Type} {f:α→List Value} {s:Nat}
theorem Ic (hf:∀e,(f e).length=s) (l:List α) : (l.flatMap f).length=l.length*s:=by
 induction l with
 | nil=>simp
 | cons e l ih=>rw [jiA,jid,ih,hf,jij,Nat.succ_mul,Nat.add_comm]
theorem jet (hf:∀e,(f e).length=s) (l:List α) (k:Nat) (hk:k≤l.length) : (l.flatMap f).take (k*s) = (l.take k).flatMap f:=by
 conv=>lhs;rw [←jiq k l]
 rw [jii,List.take_append_of_le_length (by rw [Ic hf,jim,jiZ hk];exact jif _),jiu (by rw [Ic hf,jim,jiZ hk];exact jif _)]
theorem jes (hf:∀e,(f e).length=s) (l:List α) (k:Nat) (hk:k≤l.length) : (l.flatMap f).drop (k*s) = (l.drop k).flatMap f:=by
 conv=>lhs;rw [←jiq k l]
 have hl: ((l.take k).flatMap f).length=k*s:=by rw [Ic hf,jim,jiZ hk]
 rw [jii,←hl,List.drop_left]
theorem jhp (hf:∀e,(f e).length=s) {l:List α} {i:Nat} {e:α} (h:l[i]? =some e) (hv: (f e)[j]? =some v) : (l.flatMap f)[i*s+j]? =some v:=by
 obtain ⟨hi,rfl⟩ :=List.getElem?_eq_some_iff.1 h
 have hj:= (List.getElem?_eq_some_iff.1 hv).1
 have e1:l=l.take i++ (l[i] ::l.drop (i+1)) :=by rw [←jiR hi,jiq]
 have hl: ((l.take i).flatMap f).length=i*s:=by rw [Ic hf,jim,jiZ Om]
 have e2:l.flatMap f= (l.take i).flatMap f++ (f l[i] ++ (l.drop (i+1)).flatMap f) :=by
  conv=>lhs;rw [e1]
  rw [jii,jiA]
 rw [e2,List.getElem?_append_right (by rw [hl];omega),hl,Nat.add_sub_cancel_left,List.getElem?_append_left hj]
 exact hv
end
theorem jdK {U s:Nat} (h:w.ownsRow B U s (.slice A m c) m xs) (hk:k≤m) :Src s (sliced A 0 k c s) k (xs.take (k*s)) w:=by
 have hlen:=h.1
 refine⟨by rw [jim,hlen,jiZ (Nat.mul_le_mul_right _ hk)],?_⟩
 rcases h.2 with⟨e,e2⟩ |⟨g,cap,cur,e,hb,hg,hcap,_⟩
 ·injection e with e1 e3 e4
  subst e1 e2 e4
  obtain rfl:k=0:=by omega
  exact .inl ⟨rfl,rfl⟩
 ·injection e with e1 e3 e4
  subst e1 e4
  rw [vf]
  refine .inr ⟨_,_,J,fun j u hu=>h.cells J j u ?_⟩
  rw [List.getElem?_take] at hu
  split at hu
  ·exact hu
  ·cases hu
theorem jdL {U s:Nat} (h:w.ownsRow B U s (.slice A m c) m xs) (hk:k≤m) :Src s (sliced A k m c s) (m- k) (xs.drop (k*s)) w:=by
 have hlen:=h.1
 refine⟨by rw [jiy,hlen,Nat.mul_sub_right_distrib],?_⟩
 rcases h.2 with⟨e,e2⟩ |⟨g,cap,cur,e,hb,hg,hcap,_⟩
 ·injection e with e1 e3 e4
  subst e1 e2 e4
  obtain rfl:k=0:=by omega
  exact .inl ⟨rfl,rfl⟩
 ·injection e with e1 e3 e4
  subst e1 e4
  rw [uY hcap hk]
  refine .inr ⟨_,_,J,fun j u hu=> ?_⟩
  rw [List.getElem?_drop] at hu
  have:=h.cells rfl _ u hu
  rw [Q1] at this⊢
  rw [←this]
  congr 2
  unfold YN
  have hj:= (List.getElem?_eq_some_iff.1 hu).1
  have hks:k*s+j<m*s:=by omega
  have hkc:¬c=k:=fun e=>by
   subst e
   have:m=c:=by omega
   subst this
   omega
  rw [if_neg hkc]
  omega
def z8 (s x:Sp) :Bool:=decide (s.ln*x.ld- x.ln*s.ld<0) || (decide (s.ln*x.ld- x.ln*s.ld=0) &&s.lc&& !x.lc)
theorem El (a b p q:Pn) :QI Vc (Dy a b p) (Dy a b q) =z8 (J6 a b p) (J6 a b q) :=by
 rw [jiK,QI,decide_eq_true_eq,DI]
 unfold jcs z8 Dy
 simp only [ji2,jig,decide_eq_true_eq,ji0]
 constructor
 ·rintro(h |⟨h1,h2,h3⟩)
  ·exact .inl Om
  ·exact .inr ⟨⟨by omega,h2⟩,h3⟩
 ·rintro(h |⟨⟨h1,h2⟩,h3⟩)
  ·exact .inl Om
  ·exact .inr ⟨by omega,h2,h3⟩
def wh (a b p q:Pn) :Bool:=z8 (J6 a b p) (J6 a b q)
theorem Ba (a b:Pn) :Weak (wh a b) :=by
 have:=EA.by (Dy a b)
 have e: (fun x y=>QI Vc (Dy a b x) (Dy a b y)) =wh a b:=by funext p q;exact El a b p q
 rwa [e] at this
def Vv (a b:Pn) (l:List Pn) :List Pn:=Ki (wh a b) (l.filter (K3 a b))
theorem um (a b:Pn) (hot:List Pn) :Qv a b hot=Vv a b hot:=by
 unfold Qv Vv KU
 rw [Ra (lt:=wh a b) (fun p _ q _=>El a b p q),List.map_map]
 exact List.map_id' _
theorem Ma (hk:k<ys.length) (h:K3 a b (pt ys k) =false) :Vv a b (ys.take (k+1)) =Vv a b (ys.take k) :=by
 unfold Vv
 rw [X3 hk,jjK]
 simp [h]
theorem jdQ (hk:k<ys.length) (h:K3 a b (pt ys k) =true) :Vv a b (ys.take (k+1)) =V9 (wh a b) (pt ys k) (Vv a b (ys.take k)) :=by
 unfold Vv
 rw [X3 hk,jjK,show [pt ys k].filter (K3 a b) = [pt ys k] by simp [h],Bl]
theorem X1 (a b:Pn) (l:List Pn) : (Vv a b l).length≤l.length:=by
 unfold Vv
 rw [Qs]
 exact jjL _ _
theorem jdP (h:p∈Vv a b l) :p∈l:=by
 unfold Vv at h
 rw [ZC] at h
 exact(jjT.1 h).1
def stC (a b p:Pn) :List Value:= [.int .i64 p.1, .int .i64 p.2, .int .i64 (J6 a b p).ln, .int .i64 (J6 a b p).ld, .int .i64 (J6 a b p).hn, .int .i64 (J6 a b p).hd, .bool (J6 a b p).lc, .bool (J6 a b p).hc]
theorem Rb (a b p:Pn) : (stC a b p).length=8:=rfl
theorem Ep (a b:Pn) (l:List Pn) :∀u∈l.flatMap (stC a b),u.oneCell'=true:=fun u hu=>by
 obtain ⟨p,_,hu⟩ :=jjI.1 hu
 simp only [stC,jis,ji3,or_false] at hu
 rcases hu with rfl | rfl | rfl | rfl | rfl | rfl | rfl | rfl<;>rfl
theorem B7 (b1 o1 b2 o2:Nat) (s x:Sp) (w:World) (h1:∀q v,(spC s)[q]? =some v→w.cell? ⟨b1,o1+q,none⟩ =some v) (hb1:b1<w.heap.size) (h2:∀q v,(spC x)[q]? =some v→w.cell? ⟨b2,o2+q,none⟩ =some v) (hb2:b2<w.heap.size) (hs:bdP s) (hx:bdP x) :
  Calls Tryz.prog 250 #[.pointer (some ⟨b1,o1,none⟩), .pointer (some ⟨b2,o2,none⟩)] w fun e w'=>e= .returned (.bool (z8 s x))∧Over w w':=by
 obtain ⟨m1,m2⟩ :=Fq9 hs.low hx.low
 refine jK (m:=44) (Tryz.func250) J J (lb J) ?_;refine S6 ?_;refine JH 20 ?_;refine dK 0 ?_;refine dK 1 ?_;refine dK 2 ?_;refine dZ 3 rfl (jq rfl rfl jt (by first | exact Qb (h1 0 _ rfl) hb1 | exact Qb (h1 1 _ rfl) hb1 | exact Qb (h1 4 _ rfl) hb1 | exact Qb (h2 0 _ rfl) hb2 | exact Qb (h2 1 _ rfl) hb2 | exact Qb (h2 4 _ rfl) hb2)) ?_;refine dK 4 ?_;refine dK 5 ?_;refine dK 6 ?_;refine dZ 7 rfl (jq rfl rfl jt (by first | exact Qb (h1 0 _ rfl) hb1 | exact Qb (h1 1 _ rfl) hb1 | exact Qb (h1 4 _ rfl) hb1 | exact Qb (h2 0 _ rfl) hb2 | exact Qb (h2 1 _ rfl) hb2 | exact Qb (h2 4 _ rfl) hb2)) ?_;refine dK 8 ?_;refine dK 9 ?_;refine dK 10 ?_;refine dK 11 ?_;refine dZ 12 rfl (jq rfl rfl jt (by first | exact Qb (h1 0 _ rfl) hb1 | exact Qb (h1 1 _ rfl) hb1 | exact Qb (h1 4 _ rfl) hb1 | exact Qb (h2 0 _ rfl) hb2 | exact Qb (h2 1 _ rfl) hb2 | exact Qb (h2 4 _ rfl) hb2)) ?_;refine dK 13 ?_;refine dK 14 ?_;refine dK 15 ?_;refine dZ 16 rfl (jq rfl rfl jt (by first | exact Qb (h1 0 _ rfl) hb1 | exact Qb (h1 1 _ rfl) hb1 | exact Qb (h1 4 _ rfl) hb1 | exact Qb (h2 0 _ rfl) hb2 | exact Qb (h2 1 _ rfl) hb2 | exact Qb (h2 4 _ rfl) hb2)) ?_;refine dK 17 ?_;refine dK 18 ?_;refine dK 19 ?_;refine JB Kr ?_;refine S6 ?_;refine cV 27 (fun g1=> ?_) (fun g1=> ?_)
 ·refine S19 ?_;refine jJ J (.tmp J) ?_
  intro w' hs
  exact⟨QH (by unfold z8;simp_all),hs.fin⟩
 ·refine S6 ?_;refine cV 30 (fun g2=> ?_) (fun g2=> ?_)
  ·refine S7 ?_;refine o9 (jq rfl rfl QV (by first | exact Qb (h1 0 _ rfl) hb1 | exact Qb (h1 1 _ rfl) hb1 | exact Qb (h1 4 _ rfl) hb1 | exact Qb (h2 0 _ rfl) hb2 | exact Qb (h2 1 _ rfl) hb2 | exact Qb (h2 4 _ rfl) hb2)) ?_;refine S4 ?_;refine cV 36 (fun g3=> ?_) (fun g3=> ?_)
   ·refine S7 ?_;refine o9 (jq rfl rfl QV (by first | exact Qb (h1 0 _ rfl) hb1 | exact Qb (h1 1 _ rfl) hb1 | exact Qb (h1 4 _ rfl) hb1 | exact Qb (h2 0 _ rfl) hb2 | exact Qb (h2 1 _ rfl) hb2 | exact Qb (h2 4 _ rfl) hb2)) ?_;refine S8 ?_;refine jJ J (.tmp J) ?_
    intro w' hs
    exact⟨QH (by unfold z8;simp_all),hs.fin⟩
   ·refine S11 ?_;refine jJ J (.tmp J) ?_
    intro w' hs
    exact⟨QH (by unfold z8;simp_all),hs.fin⟩
  ·refine S19 ?_;refine jJ J (.tmp J) ?_
   intro w' hs
   exact⟨QH (by unfold z8;simp_all),hs.fin⟩
theorem jbM (b3:Nat) (a b:Pn) (w:World) (h:Pts w (some ⟨b3,0,none⟩) 2 [a,b]) :Calls Tryz.prog 96 #[.slice (some ⟨b3,0,none⟩) 2 2] w fun e w'=>e= .returned (.tuple #[ub (min a.1 b.1) (min a.2 b.2),ub (max a.1 b.1) (max a.2 b.2)])∧Over w w':=by
 have:=M4 _ 2 2 [a,b] w h Dc Dc
 exact this
def inS (a b p:Pn) :Sp:=if(KC (2*a.1) (2* (b.1- a.1)) (2*p.1- 1) &&KC (2*a.2) (2* (b.2- a.2)) (2*p.2- 1)) =true then J6 a b p else WG
theorem jgq (h:ui a b p=true) :inS a b p=J6 a b p:=by
 unfold ui Xb at h
 rw [jig] at h
 exact if_pos h.1
theorem SS (a b p:Pn) (w:World) (ha:wX a.1 a.2=true) (hb:wX b.1 b.2=true) (hp:wX p.1 p.2=true) :
  Calls Tryz.prog 249 #[pV a,pV b,pV p] w fun e w'=>e= .returned (.tuple #[spV (inS a b p), .bool (ui a b p)])∧Over w w':=
 B6 a.1 a.2 b.1 b.2 p.1 p.2 w ha hb hp
theorem jbw (h:U7 a b p=false) : (!(U7 a b p&&Y2 a b p)) =true:=by rw [h];rfl
theorem jgb (h:Y2 a b p=false) : (!(U7 a b p&&Y2 a b p)) =true:=by rw [h,jjJ];rfl
theorem xT (h1:min a.1 b.1- 1≤p.1) (h2:p.1≤max a.1 b.1+1) :U7 a b p=true:=by unfold U7;rw [decide_eq_false (jjn.2 h1),decide_eq_false (jjn.2 h2)];rfl
theorem EO (h:p.1>max a.1 b.1+1) :U7 a b p=false:=by unfold U7;rw [decide_eq_true h,Bool.or_true];rfl
theorem jbx (h:p.2<min a.2 b.2- 1) :Y2 a b p=false:=by unfold Y2;rw [decide_eq_true h];rfl
theorem EQ (hx:U7 a b p=true) (h:min a.2 b.2- 1≤p.2) :decide (p.2>max a.2 b.2+1) = !(U7 a b p&&Y2 a b p) :=by rw [hx,jiJ];unfold Y2;rw [decide_eq_false (jjn.2 h),Bool.false_or,Bool.not_not]
theorem Ff (h: (U7 a b p&&Y2 a b p) =false) :K3 a b p=false:=by
 unfold K3
 rw [h,jiS]
theorem Pj (h: (U7 a b p&&Y2 a b p) =true) (hi:ui a b p=true) :K3 a b p=true:=by
 unfold K3
 rw [h,hi]
 rfl
def D4 (a b:Pn) (p:Pn) (l:List Pn) (j:Nat) :Bool:=match l[j- 1]? with
 | some q=>wh a b p q
 | none=>false
theorem N0 (hj:j≤l.length) (hj0:0<j) (hle:D4 a b p l j=true) (h:∀q∈l.drop j,wh a b p q=true) :∀q∈l.drop (j- 1),wh a b p q=true:=fun q hq=>by
 rw [jiR Om,show j- 1+1=j by omega] at hq
 rcases jis.1 hq with rfl | hq
 ·unfold D4 at hle
  rw [List.getElem?_eq_getElem Om] at hle
  exact hle
 ·exact h q hq
theorem Pa (hj:j≤l.length) (h: (decide (0<j) &&D4 a b p l j) =false) :j=0∨∃q,l[j- 1]? =some q∧wh a b p q=false:=by
 by_cases h0:0<j
 ·rw [decide_eq_true h0,jiJ] at h
  refine .inr ⟨l[j- 1]'(by omega),List.getElem?_eq_getElem Om,?_⟩
  unfold D4 at h
  rw [List.getElem?_eq_getElem Om] at h
  exact h
 ·exact .inl Om
theorem Bo (a b:Pn) (l:List Pn) :Uw (wh a b) (Vv a b l) :=wq (Ba a b) _
theorem jde {T g:Nat} (h:w.ownsRow B T 8 (.slice (some ⟨g,0,none⟩) m c) m (l.flatMap (stC a b))) (hp:l[j]? =some p) {q:Nat} (hv: (stC a b p)[q]? =some v) :w.cell? ⟨g,0+j*8+q,none⟩ =some v:=by
 have:=h.cells rfl _ v (jhp (Rb a b) hp hv)
 rw [Q1] at this
 rw [jiB] at this⊢
 exact this
theorem je9 {w0:Bs} {Rs:List Res} {T g:Nat} (hk:Rs[k]? =some (JS B T 8 m (l.flatMap (stC a b)) (some ⟨g,0,none⟩,c))) (hj:j<l.length) :∀w',St w0 Rs w'→∀q v,[Value.int .i64 (px l j),Value.int .i64 (py l j)][q]? =some v→w'.cell? ⟨g,0+j*8+0+q,none⟩ =some v:=fun w' hs q v hv=>by
 have hp:l[j]? =some (pt l j) :=by rw [List.getElem?_eq_getElem hj,kB]
 rw [jjO]
 refine jde (hs.all k _ hk).1 hp ?_
 match q,hv with
 | 0,hv=>exact hv
 | 1,hv=>exact hv
theorem jgZ {U g:Nat} (h:w.ownsRow B U 8 (.slice (some ⟨g,0,none⟩) m c) m xs) :g<w.heap.size:= (h.lt g rfl).2
theorem ST (a b:Pn) (A:Option Addr) (n c:Nat) (hot:List Pn) (w:World) (h:Pts w A n hot) (ha:wX a.1 a.2=true) (hb:wX b.1 b.2=true) (hh:∀p∈hot,wX p.1 p.2=true) (hn:n≤1048576) :
  Calls Tryz.prog 216 #[pV a,pV b, .slice A n c] w fun e w'=>∃v,e= .returned v∧w'.ownsRow w.heap.size 28 2 v (Qv a b hot).length ((Qv a b hot).flatMap jV)∧Over w w':=by
 have hl:=h.1
 have ha2:bd2 a:=Wi ha
 have hb2:bd2 b:=Wi hb
 have hp2:∀p∈hot,bd2 p:=fun p hp=>Wi (hh p hp)
 obtain ⟨⟨a1,a2⟩,a3,a4⟩ :=id ha2
 obtain ⟨⟨b1',b2'⟩,b3',b4'⟩ :=id hb2
 have hsl2:∀k,(Vv a b (hot.take k)).length≤1048576:=fun k=>by have:=X1 a b (hot.take k);rw [jim] at this;omega
 have hsp:∀p∈hot,bdP (J6 a b p) :=fun p hp=>Fj ha2 hb2 (hp2 p hp)
 rw [um]
 refine jK (m:=121) (Tryz.func216) J J (lb J) ?_;refine S3 ?_;refine aX (fun b1=> ?_);refine N1 ?_;refine aX (fun b2=> ?_);refine N5 ?_;refine jX J J (WJ) J (lb J) (fun b3=> ?_);refine KQ 2 8 J J ?_;refine N7 ?_;refine jX J J (Kc J J) J (lb J) (fun b4=> ?_);refine n9 ?_;refine a9 (jG xt J J (fun w1 hs=>jbM _ a b w1 (zS (k:=3) _ J J w1 hs))) ?_;refine S4 ?_;refine aL (fun b5=> ?_);refine N1 ?_;refine aL (fun b6=> ?_);refine N11 ?_;refine JE (X:=Nat×Option Addr×Nat) (fun x=>x.1≤n) (fun x=>n- x.1) (fun x=> [(7, .slice x.2.1 (Vv a b (hot.take x.1)).length x.2.2),(10, .int .i64 (x.1:Int))]) (kK [2,3,4,6,8,9]) (fun x=> [.cel b1 28 [.int .i64 a.1, .int .i64 a.2], .cel b2 28 [.int .i64 b.1, .int .i64 b.2],JS (Bs.N ⟨w,[]⟩) 279 8 (Vv a b (hot.take x.1)).length ((Vv a b (hot.take x.1)).flatMap (stC a b)) x.2, .cel b4 28 [.int .i64 a.1, .int .i64 a.2, .int .i64 b.1, .int .i64 b.2], .cel b5 28 [.int .i64 (min a.1 b.1), .int .i64 (min a.2 b.2)], .cel b6 28 [.int .i64 (max a.1 b.1), .int .i64 (max a.2 b.2)]]) (0,some ⟨b3,0,none⟩,0) (jie _) ⟨J,sz⟩ (fun _ h=>h) ?_
 intro⟨i,rA,rc⟩ hx L hL1
 refine v9 ?_;refine r9 ?_
 have hi:i≤n:=hx
 obtain ⟨S,hS⟩ :∃S,S=Vv a b (hot.take i) :=⟨_,rfl⟩
 obtain ⟨k,hk⟩ :∃k,k=S.length:=⟨_,rfl⟩
 have hk20:k≤1048576:= (by rw [hk,hS];exact hsl2 i)
 have hsrt:Uw (wh a b) S:= (by rw [hS];exact Bo a b _)
 have hSm:∀q∈S,q∈hot:= (fun q hq=>jiL (jdP (hS▸hq)))
 rw [←hS,←hk]
 refine S8 ?_;refine cZ (fun c1=> ?_) (fun c1=> ?_)
 ·have hlt:i<n:=Om
  obtain ⟨eb,eo,rfl,_⟩ :=h.2 Om
  have hpm:pt hot i∈hot:= (by rw [←kB Om];exact jir _)
  obtain ⟨⟨p1,p2⟩,p3,p4⟩ :=hp2 _ hpm
  refine qR (fun w hs=>v6 (hs.all 2 _ J).1) ?_
  intro hcap
  refine S9 ?_;refine a9 (jk J J jj J (Q4 (b:=eb) (o:=eo) h hlt)) ?_;refine S1 ?_;refine aL (fun b7=> ?_);refine N4 ?_;refine qr [(65, .bool (!(U7 a b (pt hot i) &&Y2 a b (pt hot i))))] (kK [2,3,4,6,8,9,7,10,26,27,28,29,32,33,34,35,11]) (fun L h_7=> ?_) ?_
  ·refine S8 ?_;refine cV 42 (fun g1=> ?_) (fun g1=> ?_)
   ·refine S24 ?_
    exact Js h_7 ⟨vb (jbw (RT (p:=pt hot i) g1)).symm,sz⟩ (u9 J)
   ·refine S14 ?_;refine cV 50 (fun g2=> ?_) (fun g2=> ?_)
    ·refine S16 ?_
     exact Js h_7 ⟨vb (jbw (EO (p:=pt hot i) g2)).symm,sz⟩ (u9 J)
    ·refine S14 ?_;refine cV 58 (fun g3=> ?_) (fun g3=> ?_)
     ·refine S8 ?_
      exact Js h_7 ⟨vb (jgb (jbx (p:=pt hot i) g3)).symm,sz⟩ (u9 J)
     ·refine S14 ?_
      exact Js h_7 ⟨vb (EQ (p:=pt hot i) (xT g1 g2) g3),sz⟩ (u9 J)
  ·refine v9 ?_;refine cZ (fun c2=> ?_) (fun c2=> ?_)
   ·refine S9 ?_
    exact Jd hL1 ((i+1,rA,rc)) ((show i+1≤n by omega)) (by simp only;omega) ⟨(by rw [Ma Om (Ff c2),←hS,←hk];rfl),vi Om,sz⟩ (fun _ h=>h.upto ⟨J,J,by rw [Ma Om (Ff c2),←hS,←hk],sz⟩)
   ·refine S7 ?_;refine a9 (jG XA J J (fun w1 hs=>SS a b (pt hot i) w1 ha hb (hh _ hpm))) ?_;refine S4 ?_;refine aL (fun b8=> ?_);refine N10 ?_;refine cZ (fun c3=> ?_) (fun c3=> ?_)
    ·refine S9 ?_
     exact Jd hL1 ((i+1,rA,rc)) ((show i+1≤n by omega)) (by simp only;omega) ⟨(by rw [Ma Om (XG c3),←hS,←hk];rfl),vi Om,sz⟩ (fun _ h=>h.upto ⟨J,J,by rw [Ma Om (XG c3),←hS,←hk],sz⟩)
    ·rw [jgq c3]
     refine S10 ?_;refine qj (X:=Nat) (fun j=>j≤k∧∀q∈S.drop j,wh a b (pt hot i) q=true) (fun j=>j) (fun j=> [(14, .int .i64 (j:Int))]) (kK [2,3,4,6,8,9,7,10,26,27,28,29,32,33,34,35,11,65,67,68,69,70,66,71,72,12,13,73,74,75,76]) k (⟨jif _,fun q hq=>by rw [ji8 Om] at hq;cases hq⟩) ⟨rfl,sz⟩ ?_
     intro j hj L hL2
     refine v9 ?_
     obtain ⟨hjk,hjq⟩ :=hj
     refine S1 ?_;refine qr [(86, .bool (decide (0<j) &&D4 a b (pt hot i) S j))] (kK [2,3,4,6,8,9,7,10,26,27,28,29,32,33,34,35,11,65,67,68,69,70,66,71,72,12,13,73,74,75,76,14]) (fun L h_11=> ?_) ?_
     ·refine S4 ?_;refine cV 79 (fun g4=> ?_) (fun g4=> ?_)
      ·have hj0:0<j:=Om
       refine qR (fun w hs=>kI (k:=2) J hs Om) ?_
       rintro⟨eg,rfl⟩
       obtain ⟨q,hq⟩ :∃q,S[j- 1]? =some q:=⟨_,List.getElem?_eq_getElem Om⟩
       have hqm:q∈S:=List.mem_of_getElem? hq
       refine S5 ?_;refine o9 ((JC J J J Om Om).as (congrArg _ (show((j:Int) - 1) = ((j- 1:Nat) :Int) by omega))) ?_;refine h9 ?_;refine o9 (jH (j:=j- 1) J J J Qh Om) ?_;refine S3 ?_;refine o9 (jG XB J J (fun w1 hs=>B7 _ 0 eg (0+ (j- 1) *8+2) (J6 a b (pt hot i)) (J6 a b q) w1 (fun r v hv=>Jj (k:=7) J w1 hs r v hv) (J4 (hs.cel (k:=7) J)) (fun r v hv=>by rw [show 0+ (j- 1) *8+2+r=0+ (j- 1) *8+ (2+r) by omega];exact jde (hs.all 2 _ J).1 hq (by rw [Nat.add_comm];exact hv)) (jgZ (hs.all 2 _ J).1) (hsp _ hpm) (hsp q (hSm q hqm)))) ?_;refine S2 ?_
       exact Js h_11 ⟨vb (by rw [show decide (0<j) =true from decide_eq_true hj0,jiJ,D4,hq];rfl),sz⟩ (u9 J)
      ·refine S8 ?_
       exact Js h_11 ⟨vb (by rw [show decide (0<j) =false from decide_eq_false Om,jiS]),sz⟩ (u9 J)
     ·refine v9 ?_;refine cZ (fun c4=> ?_) (fun c4=> ?_)
      ·simp only [jig,decide_eq_true_eq] at c4
       obtain ⟨hj0,hle⟩ :=c4
       refine S10 ?_
       exact qa hL2 (j- 1) (⟨by omega,fun q hq=>N0 Om hj0 hle hjq q hq⟩) Om ⟨vi Om,sz⟩ (u9 J)
      ·have hins:V9 (wh a b) (pt hot i) S=S.take j++pt hot i::S.drop j:=Cn (Ba a b) hsrt Om hjq (Pa Om c4)
       have hnew:Vv a b (hot.take (i+1)) =S.take j++pt hot i::S.drop j:= (by rw [jdQ Om (Pj c2 c3),←hS,hins])
       have hnl: (Vv a b (hot.take (i+1))).length=0+j+1+ (k- j) := (by rw [hnew];simp;omega)
       refine S8 ?_;refine jX J J (WJ) J (lb J) (fun b9=> ?_);refine KQ 8 8 J J ?_;refine N2 ?_;refine a9 (QS J J J Qh Om) ?_;refine S1 ?_;refine JK (k:=8) J Qh W5 Dc J Dc J J J (fun w' hs=>jdK (hs.all 2 _ J).1 hjk) ((fun u hu=>Ep a b S u (jiL hu))) (by unfold maxLen;omega) Om (jif _) (fun r1=> ?_);refine N7 ?_;refine a9 (JF J J (Y1 J J)) ?_;refine S1 ?_;refine jX J J (U9 J) J (lb J) (fun b10=> ?_);refine N1 ?_;refine JK (k:=8) J Qh W5 Dc J Dc J J J (fun w' hs=>qD hs (k:=9) J J) (by simp [Value.oneCell']) (by unfold maxLen;omega) Om (jif _) (fun r2=> ?_);refine N6 ?_;refine a9 (KZ J J J Qh Om) ?_;refine S1 ?_;refine JK (k:=8) J Qh W5 Dc J Dc J J J (fun w' hs=>jdL (hs.all 2 _ J).1 hjk) ((fun u hu=>Ep a b S u (jiX hu))) (by unfold maxLen;omega) Om (jif _) (fun r3=> ?_);refine N9 ?_
       exact Jd hL1 ((i+1,r3)) ((show i+1≤n by omega)) (by simp only;omega) ⟨(by rw [hnl];rfl),vi Om,sz⟩ (fun _ h=> (h.picks [0,1,8,3,4,5] Dc).upto ⟨J,J,by rw [hnl,hnew,jet (Rb a b) S j Om,jes (Rb a b) S j Om,jii,jiA,←jil];rfl,sz⟩)
 ·have hin:i=n:=Om
  subst hin
  have hSa:S=Vv a b hot:= (by rw [hS,jiu Om])
  rw [←hSa]
  refine S8 ?_;refine jX J J (Qk) J (lb J) (fun b11=> ?_);refine KQ 6 2 J J ?_;refine N8 ?_;refine JE (X:=Nat×Option Addr×Nat) (fun y=>y.1≤k) (fun y=>k- y.1) (fun y=> [(16, .slice y.2.1 y.1 y.2.2),(17, .int .i64 (y.1:Int))]) (kK [6,7]) (fun y=> [.cel b1 28 [.int .i64 a.1, .int .i64 a.2], .cel b2 28 [.int .i64 b.1, .int .i64 b.2],JS (Bs.N ⟨w,[]⟩) 279 8 k (S.flatMap (stC a b)) (rA,rc), .cel b4 28 [.int .i64 a.1, .int .i64 a.2, .int .i64 b.1, .int .i64 b.2], .cel b5 28 [.int .i64 (min a.1 b.1), .int .i64 (min a.2 b.2)], .cel b6 28 [.int .i64 (max a.1 b.1), .int .i64 (max a.2 b.2)],JS (Bs.N ⟨w,[]⟩) 28 2 y.1 ((S.take y.1).flatMap jV) y.2]) (0,some ⟨b11,0,none⟩,0) (jie _) ⟨J,sz⟩ (fun _ h=>h) ?_
  intro⟨j,qA,qc⟩ hy L hL3
  refine v9 ?_;refine r9 ?_
  have hj:j≤k:=hy
  refine S8 ?_;refine cZ (fun c5=> ?_) (fun c5=> ?_)
  ·have hlt:j<k:=Om
   refine qR (fun w hs=>kI (k:=2) J hs Om) ?_
   rintro⟨eg,rfl⟩
   have hpj:S[j]? =some (pt S j) := (by rw [List.getElem?_eq_getElem Om,kB])
   refine S8 ?_;refine a9 (jH (j:=j) J J J Qh Om) ?_;refine S1 ?_;refine a9 (jk J J jj J (je9 (k:=2) J Om)) ?_;refine S1 ?_;refine jX J J (J9 J) J (lb J) (fun b12=> ?_);refine N1 ?_;refine JK (k:=6) J jl jD Dc J Dc J J J (fun w' hs=>qD hs (k:=7) J J) (by simp [Value.oneCell']) (by unfold maxLen;omega) Om (jif _) (fun r4=> ?_);refine N9 ?_
   exact Jd hL3 ((j+1,r4)) ((show j+1≤k by omega)) (by simp only;omega) ⟨J,vi Om,sz⟩ (fun _ h=>h.upto ⟨J,J,J,J,J,J,by rw [X3 Om,jii];rfl,trivial⟩)
  ·have hje:j=k:=Om
   subst hje
   rw [jiu Om]
   refine S11 ?_;refine jJ J (.tmp J) ?_
   intro w' hs
   have hr:=hs.all 6 _ rfl
   exact⟨_,rfl,Q5 (by rw [←hk];exact hr.1) (fun b hb=> (hr.2.1 b hb).elim id (fun h=>by cases h)),hs.fin⟩
end Go.Proofs.YtbahojdbmmjkcaaGreat
