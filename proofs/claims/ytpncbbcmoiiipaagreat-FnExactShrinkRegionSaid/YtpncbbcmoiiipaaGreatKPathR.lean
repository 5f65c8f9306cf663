import Derived.Test.YtpncbbcmoiiipaaGreatKPathP
set_option linter.unusedVariables false
set_option linter.unusedSimpArgs false
namespace Go.Proofs.YtpncbbcmoiiipaaGreat
open Go Go.RowKit
set_option maxRecDepth 100000
set_option maxHeartbeats 4000000
section
variable {α:Type} {f:α→List Value} {s:Nat}
theorem FN (hf:∀e,(f e).length=s) (l:List α) : (l.flatMap f).length=l.length*s:=by
 induction l with
 | nil=>simp
 | cons e l ih=>rw [jiB,jif,ih,hf,jim,Nat.succ_mul,Nat.add_comm]
theorem jes (hf:∀e,(f e).length=s) (l:List α) (k:Nat) (hk:k≤l.length) : (l.flatMap f).take (k*s) = (l.take k).flatMap f:=by
 conv=>lhs;rw [←jiw k l]
 rw [jio,List.take_append_of_le_length (by rw [FN hf,jiy,jjm hk];exact jih _),jiK (by rw [FN hf,jiy,jjm hk];exact jih _)]
theorem jer (hf:∀e,(f e).length=s) (l:List α) (k:Nat) (hk:k≤l.length) : (l.flatMap f).drop (k*s) = (l.drop k).flatMap f:=by
 conv=>lhs;rw [←jiw k l]
 have hl: ((l.take k).flatMap f).length=k*s:=by rw [FN hf,jiy,jjm hk]
 rw [jio,←hl,List.drop_left]
theorem jhu (hf:∀e,(f e).length=s) {l:List α} {i:Nat} {e:α} (h:l[i]? =some e) {j:Nat} {v:Value} (hv: (f e)[j]? =some v) : (l.flatMap f)[i*s+j]? =some v:=by
 obtain ⟨hi,rfl⟩ :=List.getElem?_eq_some_iff.1 h
 have hj:= (List.getElem?_eq_some_iff.1 hv).1
 have e1:l=l.take i++ (l[i] ::l.drop (i+1)) :=by rw [←jiY hi,jiw]
 have hl: ((l.take i).flatMap f).length=i*s:=by rw [FN hf,jiy,jjm Om]
 have e2:l.flatMap f= (l.take i).flatMap f++ (f l[i] ++ (l.drop (i+1)).flatMap f) :=by
  conv=>lhs;rw [e1]
  rw [jio,jiB]
 rw [e2,List.getElem?_append_right (by rw [hl];omega),hl,Nat.add_sub_cancel_left,List.getElem?_append_left hj]
 exact hv
end
theorem jdt {w:World} {B U s m k:Nat} {A:Option Addr} {c:Nat} {xs:List Value} (h:w.ownsRow B U s (.slice A m c) m xs) (hk:k≤m) :Src s (sliced A 0 k c s) k (xs.take (k*s)) w:=by
 have hlen:=h.1
 refine⟨by rw [jiy,hlen,jjm (Nat.mul_le_mul_right _ hk)],?_⟩
 rcases h.2 with⟨e,e2⟩ |⟨g,cap,cur,e,hb,hg,hcap,_⟩
 ·injection e with e1 e3 e4
  subst e1 e2 e4
  obtain rfl:k=0:=by omega
  exact .inl ⟨rfl,rfl⟩
 ·injection e with e1 e3 e4
  subst e1 e4
  rw [WT]
  refine .inr ⟨_,_,J,fun j u hu=>h.cells J j u ?_⟩
  rw [List.getElem?_take] at hu
  split at hu
  ·exact hu
  ·cases hu
theorem jdu {w:World} {B U s m k:Nat} {A:Option Addr} {c:Nat} {xs:List Value} (h:w.ownsRow B U s (.slice A m c) m xs) (hk:k≤m) :Src s (sliced A k m c s) (m- k) (xs.drop (k*s)) w:=by
 have hlen:=h.1
 refine⟨by rw [jiI,hlen,Nat.mul_sub_right_distrib],?_⟩
 rcases h.2 with⟨e,e2⟩ |⟨g,cap,cur,e,hb,hg,hcap,_⟩
 ·injection e with e1 e3 e4
  subst e1 e2 e4
  obtain rfl:k=0:=by omega
  exact .inl ⟨rfl,rfl⟩
 ·injection e with e1 e3 e4
  subst e1 e4
  rw [Uq hcap hk]
  refine .inr ⟨_,_,J,fun j u hu=> ?_⟩
  rw [List.getElem?_drop] at hu
  have:=h.cells rfl _ u hu
  rw [Q1] at this⊢
  rw [←this]
  congr 2
  unfold zf
  have hj:= (List.getElem?_eq_some_iff.1 hu).1
  have hks:k*s+j<m*s:=by omega
  have hkc:¬c=k:=fun e=>by
   subst e
   have:m=c:=by omega
   subst this
   omega
  rw [if_neg hkc]
  omega
def Y7 (s x:Sp) :Bool:=decide (s.ln*x.ld- x.ln*s.ld<0) || (decide (s.ln*x.ld- x.ln*s.ld=0) &&s.lc&& !x.lc)
theorem CQ (a b p q:Pn) :QI VF (Dd a b p) (Dd a b q) =Y7 (JZ a b p) (JZ a b q) :=by
 rw [jiN,QI,decide_eq_true_eq,Dp]
 unfold jce Y7 Dd
 simp only [ji4,jig,decide_eq_true_eq,ji2]
 constructor
 ·rintro(h |⟨h1,h2,h3⟩)
  ·exact .inl Om
  ·exact .inr ⟨⟨by omega,h2⟩,h3⟩
 ·rintro(h |⟨⟨h1,h2⟩,h3⟩)
  ·exact .inl Om
  ·exact .inr ⟨by omega,h2,h3⟩
def KN (a b p q:Pn) :Bool:=Y7 (JZ a b p) (JZ a b q)
theorem YJ (a b:Pn) :Weak (KN a b) :=by
 have:=C6.by (Dd a b)
 have e: (fun x y=>QI VF (Dd a b x) (Dd a b y)) =KN a b:=by funext p q;exact CQ a b p q
 rwa [e] at this
def V0 (a b:Pn) (l:List Pn) :List Pn:=kW (KN a b) (l.filter (KJ a b))
theorem wK (a b:Pn) (hot:List Pn) :qD a b hot=V0 a b hot:=by
 unfold qD V0 vj
 rw [II (lt:=KN a b) (fun p _ q _=>CQ a b p q),List.map_map]
 exact List.map_id' _
theorem Mt {a b:Pn} {ys:List Pn} {k:Nat} (hk:k<ys.length) (h:KJ a b (pt ys k) =false) :V0 a b (ys.take (k+1)) =V0 a b (ys.take k) :=by
 unfold V0
 rw [Gh hk,jjT]
 simp [h]
theorem jdz {a b:Pn} {ys:List Pn} {k:Nat} (hk:k<ys.length) (h:KJ a b (pt ys k) =true) :V0 a b (ys.take (k+1)) =VS (KN a b) (pt ys k) (V0 a b (ys.take k)) :=by
 unfold V0
 rw [Gh hk,jjT,show [pt ys k].filter (KJ a b) = [pt ys k] by simp [h],O9]
theorem Gg (a b:Pn) (l:List Pn) : (V0 a b l).length≤l.length:=by
 unfold V0
 rw [Qu]
 exact jjV _ _
theorem jdy {a b:Pn} {l:List Pn} {p:Pn} (h:p∈V0 a b l) :p∈l:=by
 unfold V0 at h
 rw [ZO] at h
 exact(ji6.1 h).1
def stC (a b p:Pn) :List Value:= [.int .i64 p.1, .int .i64 p.2, .int .i64 (JZ a b p).ln, .int .i64 (JZ a b p).ld, .int .i64 (JZ a b p).hn, .int .i64 (JZ a b p).hd, .bool (JZ a b p).lc, .bool (JZ a b p).hc]
theorem IJ (a b p:Pn) : (stC a b p).length=8:=rfl
theorem CU (a b:Pn) (l:List Pn) :∀u∈l.flatMap (stC a b),u.oneCell'=true:=fun u hu=>by
 obtain ⟨p,_,hu⟩ :=jjL.1 hu
 simp only [stC,jir,ji3,or_false] at hu
 rcases hu with rfl | rfl | rfl | rfl | rfl | rfl | rfl | rfl<;>rfl
theorem BN (b1 o1 b2 o2:Nat) (s x:Sp) (w:World) (h1:∀q v,(spC s)[q]? =some v→w.cell? ⟨b1,o1+q,none⟩ =some v) (hb1:b1<w.heap.size) (h2:∀q v,(spC x)[q]? =some v→w.cell? ⟨b2,o2+q,none⟩ =some v) (hb2:b2<w.heap.size) (hs:bdP s) (hx:bdP x) :
  Calls Tryz.prog 274 #[.pointer (some ⟨b1,o1,none⟩), .pointer (some ⟨b2,o2,none⟩)] w fun e w'=>e= .returned (.bool (Y7 s x))∧Over w w':=by
 obtain ⟨m1,m2⟩ :=Fw hs.low hx.low
 refine Jh (m:=44) (Tryz.func274) J J (lb J) ?_;refine S6 ?_;refine JS 20 ?_;refine dK 0 ?_;refine dK 1 ?_;refine dK 2 ?_;refine dZ 3 rfl (jn rfl rfl jt (by first | exact Qm (h1 0 _ rfl) hb1 | exact Qm (h1 1 _ rfl) hb1 | exact Qm (h1 4 _ rfl) hb1 | exact Qm (h2 0 _ rfl) hb2 | exact Qm (h2 1 _ rfl) hb2 | exact Qm (h2 4 _ rfl) hb2)) ?_;refine dK 4 ?_;refine dK 5 ?_;refine dK 6 ?_;refine dZ 7 rfl (jn rfl rfl jt (by first | exact Qm (h1 0 _ rfl) hb1 | exact Qm (h1 1 _ rfl) hb1 | exact Qm (h1 4 _ rfl) hb1 | exact Qm (h2 0 _ rfl) hb2 | exact Qm (h2 1 _ rfl) hb2 | exact Qm (h2 4 _ rfl) hb2)) ?_;refine dK 8 ?_;refine dK 9 ?_;refine dK 10 ?_;refine dK 11 ?_;refine dZ 12 rfl (jn rfl rfl jt (by first | exact Qm (h1 0 _ rfl) hb1 | exact Qm (h1 1 _ rfl) hb1 | exact Qm (h1 4 _ rfl) hb1 | exact Qm (h2 0 _ rfl) hb2 | exact Qm (h2 1 _ rfl) hb2 | exact Qm (h2 4 _ rfl) hb2)) ?_;refine dK 13 ?_;refine dK 14 ?_;refine dK 15 ?_;refine dZ 16 rfl (jn rfl rfl jt (by first | exact Qm (h1 0 _ rfl) hb1 | exact Qm (h1 1 _ rfl) hb1 | exact Qm (h1 4 _ rfl) hb1 | exact Qm (h2 0 _ rfl) hb2 | exact Qm (h2 1 _ rfl) hb2 | exact Qm (h2 4 _ rfl) hb2)) ?_;refine dK 17 ?_;refine dK 18 ?_;refine dK 19 ?_;refine JK Kr ?_;refine S6 ?_;refine cV 27 (fun g1=> ?_) (fun g1=> ?_)
 ·refine S19 ?_;refine jM J (.tmp J) ?_
  intro w' hs
  exact⟨QH (by unfold Y7;simp_all),hs.fin⟩
 ·refine S6 ?_;refine cV 30 (fun g2=> ?_) (fun g2=> ?_)
  ·refine S7 ?_;refine o9 (jn rfl rfl QT (by first | exact Qm (h1 0 _ rfl) hb1 | exact Qm (h1 1 _ rfl) hb1 | exact Qm (h1 4 _ rfl) hb1 | exact Qm (h2 0 _ rfl) hb2 | exact Qm (h2 1 _ rfl) hb2 | exact Qm (h2 4 _ rfl) hb2)) ?_;refine S4 ?_;refine cV 36 (fun g3=> ?_) (fun g3=> ?_)
   ·refine S7 ?_;refine o9 (jn rfl rfl QT (by first | exact Qm (h1 0 _ rfl) hb1 | exact Qm (h1 1 _ rfl) hb1 | exact Qm (h1 4 _ rfl) hb1 | exact Qm (h2 0 _ rfl) hb2 | exact Qm (h2 1 _ rfl) hb2 | exact Qm (h2 4 _ rfl) hb2)) ?_;refine S8 ?_;refine jM J (.tmp J) ?_
    intro w' hs
    exact⟨QH (by unfold Y7;simp_all),hs.fin⟩
   ·refine S11 ?_;refine jM J (.tmp J) ?_
    intro w' hs
    exact⟨QH (by unfold Y7;simp_all),hs.fin⟩
  ·refine S19 ?_;refine jM J (.tmp J) ?_
   intro w' hs
   exact⟨QH (by unfold Y7;simp_all),hs.fin⟩
theorem jbt (b3:Nat) (a b:Pn) (w:World) (h:Pts w (some ⟨b3,0,none⟩) 2 [a,b]) :Calls Tryz.prog 116 #[.slice (some ⟨b3,0,none⟩) 2 2] w fun e w'=>e= .returned (.tuple #[uS (min a.1 b.1) (min a.2 b.2),uS (max a.1 b.1) (max a.2 b.2)])∧Over w w':=by
 have:=M8 _ 2 2 [a,b] w h Dc Dc
 exact this
def inS (a b p:Pn) :Sp:=if(KM (2*a.1) (2* (b.1- a.1)) (2*p.1- 1) &&KM (2*a.2) (2* (b.2- a.2)) (2*p.2- 1)) =true then JZ a b p else W6
theorem jgv {a b p:Pn} (h:Ve a b p=true) :inS a b p=JZ a b p:=by
 unfold Ve Xr at h
 rw [jig] at h
 exact if_pos h.1
theorem Sk (a b p:Pn) (w:World) (ha:wR a.1 a.2=true) (hb:wR b.1 b.2=true) (hp:wR p.1 p.2=true) :
  Calls Tryz.prog 273 #[pV a,pV b,pV p] w fun e w'=>e= .returned (.tuple #[spV (inS a b p), .bool (Ve a b p)])∧Over w w':=
 BM a.1 a.2 b.1 b.2 p.1 p.2 w ha hb hp
theorem ja6 {a b p:Pn} (h:yi a b p=false) : (!(yi a b p&&za a b p)) =true:=by rw [h];rfl
theorem jge {a b p:Pn} (h:za a b p=false) : (!(yi a b p&&za a b p)) =true:=by rw [h,Bool.and_false];rfl
theorem Xd {a b p:Pn} (h1:min a.1 b.1- 1≤p.1) (h2:p.1≤max a.1 b.1+1) :yi a b p=true:=by unfold yi;rw [decide_eq_false (jjr.2 h1),decide_eq_false (jjr.2 h2)];rfl
theorem Em {a b p:Pn} (h:p.1>max a.1 b.1+1) :yi a b p=false:=by unfold yi;rw [decide_eq_true h,Bool.or_true];rfl
theorem ja7 {a b p:Pn} (h:p.2<min a.2 b.2- 1) :za a b p=false:=by unfold za;rw [decide_eq_true h];rfl
theorem Eo {a b p:Pn} (hx:yi a b p=true) (h:min a.2 b.2- 1≤p.2) :decide (p.2>max a.2 b.2+1) = !(yi a b p&&za a b p) :=by rw [hx,jix];unfold za;rw [decide_eq_false (jjr.2 h),Bool.false_or,Bool.not_not]
theorem DU {a b p:Pn} (h: (yi a b p&&za a b p) =false) :KJ a b p=false:=by
 unfold KJ
 rw [h,jiC]
theorem NC {a b p:Pn} (h: (yi a b p&&za a b p) =true) (hi:Ve a b p=true) :KJ a b p=true:=by
 unfold KJ
 rw [h,hi]
 rfl
def DI (a b:Pn) (p:Pn) (l:List Pn) (j:Nat) :Bool:=match l[j- 1]? with
 | some q=>KN a b p q
 | none=>false
theorem Np {a b p:Pn} {l:List Pn} {j:Nat} (hj:j≤l.length) (hj0:0<j) (hle:DI a b p l j=true) (h:∀q∈l.drop j,KN a b p q=true) :∀q∈l.drop (j- 1),KN a b p q=true:=fun q hq=>by
 rw [jiY Om,show j- 1+1=j by omega] at hq
 rcases jir.1 hq with rfl | hq
 ·unfold DI at hle
  rw [List.getElem?_eq_getElem Om] at hle
  exact hle
 ·exact h q hq
theorem Nq {a b p:Pn} {l:List Pn} {j:Nat} (hj:j≤l.length) (h: (decide (0<j) &&DI a b p l j) =false) :j=0∨∃q,l[j- 1]? =some q∧KN a b p q=false:=by
 by_cases h0:0<j
 ·rw [decide_eq_true h0,jix] at h
  refine .inr ⟨l[j- 1]'(by omega),List.getElem?_eq_getElem Om,?_⟩
  unfold DI at h
  rw [List.getElem?_eq_getElem Om] at h
  exact h
 ·exact .inl Om
theorem Zm (a b:Pn) (l:List Pn) :Uy (KN a b) (V0 a b l) :=wV (YJ a b) _
theorem jc4 {w:World} {B T m g c j:Nat} {a b:Pn} {l:List Pn} {p:Pn} (h:w.ownsRow B T 8 (.slice (some ⟨g,0,none⟩) m c) m (l.flatMap (stC a b))) (hp:l[j]? =some p) {q:Nat} {v:Value} (hv: (stC a b p)[q]? =some v) :w.cell? ⟨g,0+j*8+q,none⟩ =some v:=by
 have:=h.cells rfl _ v (jhu (IJ a b) hp hv)
 rw [Q1] at this
 rw [jiL] at this⊢
 exact this
theorem jfh {w0:Bs} {Rs:List Res} {k B T m g c j:Nat} {a b:Pn} {l:List Pn} (hk:Rs[k]? =some (JY B T 8 m (l.flatMap (stC a b)) (some ⟨g,0,none⟩,c))) (hj:j<l.length) :∀w',St w0 Rs w'→∀q v,[Value.int .i64 (px l j),Value.int .i64 (py l j)][q]? =some v→w'.cell? ⟨g,0+j*8+0+q,none⟩ =some v:=fun w' hs q v hv=>by
 have hp:l[j]? =some (pt l j) :=by rw [List.getElem?_eq_getElem hj,Kk]
 rw [jj2]
 refine jc4 (hs.all k _ hk).1 hp ?_
 match q,hv with
 | 0,hv=>exact hv
 | 1,hv=>exact hv
theorem jg2 {w:World} {B U m g:Nat} {c:Nat} {xs:List Value} (h:w.ownsRow B U 8 (.slice (some ⟨g,0,none⟩) m c) m xs) :g<w.heap.size:= (h.lt g rfl).2
theorem Sm (a b:Pn) (A:Option Addr) (n c:Nat) (hot:List Pn) (w:World) (h:Pts w A n hot) (ha:wR a.1 a.2=true) (hb:wR b.1 b.2=true) (hh:∀p∈hot,wR p.1 p.2=true) (hn:n≤1048576) :
  Calls Tryz.prog 249 #[pV a,pV b, .slice A n c] w fun e w'=>∃v,e= .returned v∧w'.ownsRow w.heap.size 56 2 v (qD a b hot).length ((qD a b hot).flatMap Js)∧Over w w':=by
 have hl:=h.1
 have ha2:bd2 a:=Yy ha
 have hb2:bd2 b:=Yy hb
 have hp2:∀p∈hot,bd2 p:=fun p hp=>Yy (hh p hp)
 obtain ⟨⟨a1,a2⟩,a3,a4⟩ :=id ha2
 obtain ⟨⟨b1',b2'⟩,b3',b4'⟩ :=id hb2
 have hsl2:∀k,(V0 a b (hot.take k)).length≤1048576:=fun k=>by have:=Gg a b (hot.take k);rw [jiy] at this;omega
 have hsp:∀p∈hot,bdP (JZ a b p) :=fun p hp=>DZ ha2 hb2 (hp2 p hp)
 rw [wK]
 refine Jh (m:=121) (Tryz.func249) J J (lb J) ?_;refine S3 ?_;refine aX (fun b1=> ?_);refine N1 ?_;refine aX (fun b2=> ?_);refine N5 ?_;refine Jx J J (W8) J (lb J) (fun b3=> ?_);refine WF 2 8 J J ?_;refine N7 ?_;refine Jx J J (VO J J) J (lb J) (fun b4=> ?_);refine n9 ?_;refine a9 (jT xB J J (fun w1 hs=>jbt _ a b w1 (jcT (k:=3) _ J J w1 hs))) ?_;refine S4 ?_;refine aL (fun b5=> ?_);refine N1 ?_;refine aL (fun b6=> ?_);refine N11 ?_;refine JQ (X:=Nat×Option Addr×Nat) (fun x=>x.1≤n) (fun x=>n- x.1) (fun x=> [(7, .slice x.2.1 (V0 a b (hot.take x.1)).length x.2.2),(10, .int .i64 (x.1:Int))]) (kK [2,3,4,6,8,9]) (fun x=> [.cel b1 56 [.int .i64 a.1, .int .i64 a.2], .cel b2 56 [.int .i64 b.1, .int .i64 b.2],JY (Bs.N ⟨w,[]⟩) 289 8 (V0 a b (hot.take x.1)).length ((V0 a b (hot.take x.1)).flatMap (stC a b)) x.2, .cel b4 56 [.int .i64 a.1, .int .i64 a.2, .int .i64 b.1, .int .i64 b.2], .cel b5 56 [.int .i64 (min a.1 b.1), .int .i64 (min a.2 b.2)], .cel b6 56 [.int .i64 (max a.1 b.1), .int .i64 (max a.2 b.2)]]) (0,some ⟨b3,0,none⟩,0) (jii _) ⟨J,sz⟩ (fun _ h=>h) ?_
 intro⟨i,rA,rc⟩ hx L hL1
 refine v9 ?_;refine r9 ?_
 have hi:i≤n:=hx
 obtain ⟨S,hS⟩ :∃S,S=V0 a b (hot.take i) :=⟨_,rfl⟩
 obtain ⟨k,hk⟩ :∃k,k=S.length:=⟨_,rfl⟩
 have hk20:k≤1048576:= (by rw [hk,hS];exact hsl2 i)
 have hsrt:Uy (KN a b) S:= (by rw [hS];exact Zm a b _)
 have hSm:∀q∈S,q∈hot:= (fun q hq=>jiZ (jdy (hS▸hq)))
 rw [←hS,←hk]
 refine S8 ?_;refine cZ (fun c1=> ?_) (fun c1=> ?_)
 ·have hlt:i<n:=Om
  obtain ⟨eb,eo,rfl,_⟩ :=h.2 Om
  have hpm:pt hot i∈hot:= (by rw [←Kk Om];exact jis _)
  obtain ⟨⟨p1,p2⟩,p3,p4⟩ :=hp2 _ hpm
  refine ky (fun w hs=>uZ (hs.all 2 _ J).1) ?_
  intro hcap
  refine S9 ?_;refine a9 (jk J J jj J (wL (b:=eb) (o:=eo) h hlt)) ?_;refine S1 ?_;refine aL (fun b7=> ?_);refine N4 ?_;refine qt [(65, .bool (!(yi a b (pt hot i) &&za a b (pt hot i))))] (kK [2,3,4,6,8,9,7,10,26,27,28,29,32,33,34,35,11]) (fun L h_7=> ?_) ?_
  ·refine S8 ?_;refine cV 42 (fun g1=> ?_) (fun g1=> ?_)
   ·refine S24 ?_
    exact Jk h_7 ⟨vb (ja6 (Rw (p:=pt hot i) g1)).symm,sz⟩ (u9 J)
   ·refine S14 ?_;refine cV 50 (fun g2=> ?_) (fun g2=> ?_)
    ·refine S16 ?_
     exact Jk h_7 ⟨vb (ja6 (Em (p:=pt hot i) g2)).symm,sz⟩ (u9 J)
    ·refine S14 ?_;refine cV 58 (fun g3=> ?_) (fun g3=> ?_)
     ·refine S8 ?_
      exact Jk h_7 ⟨vb (jge (ja7 (p:=pt hot i) g3)).symm,sz⟩ (u9 J)
     ·refine S14 ?_
      exact Jk h_7 ⟨vb (Eo (p:=pt hot i) (Xd g1 g2) g3),sz⟩ (u9 J)
  ·refine v9 ?_;refine cZ (fun c2=> ?_) (fun c2=> ?_)
   ·refine S9 ?_
    exact Ji hL1 ((i+1,rA,rc)) ((show i+1≤n by omega)) (by simp only;omega) ⟨(by rw [Mt Om (DU c2),←hS,←hk];rfl),vi Om,sz⟩ (fun _ h=>h.upto ⟨J,J,by rw [Mt Om (DU c2),←hS,←hk],sz⟩)
   ·refine S7 ?_;refine a9 (jT XQ J J (fun w1 hs=>Sk a b (pt hot i) w1 ha hb (hh _ hpm))) ?_;refine S4 ?_;refine aL (fun b8=> ?_);refine N10 ?_;refine cZ (fun c3=> ?_) (fun c3=> ?_)
    ·refine S9 ?_
     exact Ji hL1 ((i+1,rA,rc)) ((show i+1≤n by omega)) (by simp only;omega) ⟨(by rw [Mt Om (XX c3),←hS,←hk];rfl),vi Om,sz⟩ (fun _ h=>h.upto ⟨J,J,by rw [Mt Om (XX c3),←hS,←hk],sz⟩)
    ·rw [jgv c3]
     refine S10 ?_;refine qz (X:=Nat) (fun j=>j≤k∧∀q∈S.drop j,KN a b (pt hot i) q=true) (fun j=>j) (fun j=> [(14, .int .i64 (j:Int))]) (kK [2,3,4,6,8,9,7,10,26,27,28,29,32,33,34,35,11,65,67,68,69,70,66,71,72,12,13,73,74,75,76]) k (⟨jih _,fun q hq=>by rw [jja Om] at hq;cases hq⟩) ⟨rfl,sz⟩ ?_
     intro j hj L hL2
     refine v9 ?_
     obtain ⟨hjk,hjq⟩ :=hj
     refine S1 ?_;refine qt [(86, .bool (decide (0<j) &&DI a b (pt hot i) S j))] (kK [2,3,4,6,8,9,7,10,26,27,28,29,32,33,34,35,11,65,67,68,69,70,66,71,72,12,13,73,74,75,76,14]) (fun L h_11=> ?_) ?_
     ·refine S4 ?_;refine cV 79 (fun g4=> ?_) (fun g4=> ?_)
      ·have hj0:0<j:=Om
       refine ky (fun w hs=>VJ (k:=2) J hs Om) ?_
       rintro⟨eg,rfl⟩
       obtain ⟨q,hq⟩ :∃q,S[j- 1]? =some q:=⟨_,List.getElem?_eq_getElem Om⟩
       have hqm:q∈S:=List.mem_of_getElem? hq
       refine S5 ?_;refine o9 ((JJ J J J Om Om).as (congrArg _ (show((j:Int) - 1) = ((j- 1:Nat) :Int) by omega))) ?_;refine h9 ?_;refine o9 (jN (j:=j- 1) J J J Qi Om) ?_;refine S3 ?_;refine o9 (jT XS J J (fun w1 hs=>BN _ 0 eg (0+ (j- 1) *8+2) (JZ a b (pt hot i)) (JZ a b q) w1 (fun r v hv=>jY (k:=7) J w1 hs r v hv) (J3 (hs.cel (k:=7) J)) (fun r v hv=>by rw [show 0+ (j- 1) *8+2+r=0+ (j- 1) *8+ (2+r) by omega];exact jc4 (hs.all 2 _ J).1 hq (by rw [Nat.add_comm];exact hv)) (jg2 (hs.all 2 _ J).1) (hsp _ hpm) (hsp q (hSm q hqm)))) ?_;refine S2 ?_
       exact Jk h_11 ⟨vb (by rw [show decide (0<j) =true from decide_eq_true hj0,jix,DI,hq];rfl),sz⟩ (u9 J)
      ·refine S8 ?_
       exact Jk h_11 ⟨vb (by rw [show decide (0<j) =false from decide_eq_false Om,jiC]),sz⟩ (u9 J)
     ·refine v9 ?_;refine cZ (fun c4=> ?_) (fun c4=> ?_)
      ·simp only [jig,decide_eq_true_eq] at c4
       obtain ⟨hj0,hle⟩ :=c4
       refine S10 ?_
       exact qi hL2 (j- 1) (⟨by omega,fun q hq=>Np Om hj0 hle hjq q hq⟩) Om ⟨vi Om,sz⟩ (u9 J)
      ·have hins:VS (KN a b) (pt hot i) S=S.take j++pt hot i::S.drop j:=PP (YJ a b) hsrt Om hjq (Nq Om c4)
       have hnew:V0 a b (hot.take (i+1)) =S.take j++pt hot i::S.drop j:= (by rw [jdz Om (NC c2 c3),←hS,hins])
       have hnl: (V0 a b (hot.take (i+1))).length=0+j+1+ (k- j) := (by rw [hnew];simp;omega)
       refine S8 ?_;refine Jx J J (W8) J (lb J) (fun b9=> ?_);refine WF 8 8 J J ?_;refine N2 ?_;refine a9 (Kl J J J Qi Om) ?_;refine S1 ?_;refine JV (k:=8) J Qi uz Dc J Dc J J J (fun w' hs=>jdt (hs.all 2 _ J).1 hjk) ((fun u hu=>CU a b S u (jiZ hu))) (by unfold maxLen;omega) Om (jih _) (fun r1=> ?_);refine N7 ?_;refine a9 (JU J J (zB J J)) ?_;refine S1 ?_;refine Jx J J (yF J) J (lb J) (fun b10=> ?_);refine N1 ?_;refine JV (k:=8) J Qi uz Dc J Dc J J J (fun w' hs=>Qb hs (k:=9) J J) (by simp [Value.oneCell']) (by unfold maxLen;omega) Om (jih _) (fun r2=> ?_);refine N6 ?_;refine a9 (Vy J J J Qi Om) ?_;refine S1 ?_;refine JV (k:=8) J Qi uz Dc J Dc J J J (fun w' hs=>jdu (hs.all 2 _ J).1 hjk) ((fun u hu=>CU a b S u (ji8 hu))) (by unfold maxLen;omega) Om (jih _) (fun r3=> ?_);refine N9 ?_
       exact Ji hL1 ((i+1,r3)) ((show i+1≤n by omega)) (by simp only;omega) ⟨(by rw [hnl];rfl),vi Om,sz⟩ (fun _ h=> (h.picks [0,1,8,3,4,5] Dc).upto ⟨J,J,by rw [hnl,hnew,jes (IJ a b) S j Om,jer (IJ a b) S j Om,jio,jiB,←jil];rfl,sz⟩)
 ·have hin:i=n:=Om
  subst hin
  have hSa:S=V0 a b hot:= (by rw [hS,jiK Om])
  rw [←hSa]
  refine S8 ?_;refine Jx J J (vK) J (lb J) (fun b11=> ?_);refine WF 6 2 J J ?_;refine N8 ?_;refine JQ (X:=Nat×Option Addr×Nat) (fun y=>y.1≤k) (fun y=>k- y.1) (fun y=> [(16, .slice y.2.1 y.1 y.2.2),(17, .int .i64 (y.1:Int))]) (kK [6,7]) (fun y=> [.cel b1 56 [.int .i64 a.1, .int .i64 a.2], .cel b2 56 [.int .i64 b.1, .int .i64 b.2],JY (Bs.N ⟨w,[]⟩) 289 8 k (S.flatMap (stC a b)) (rA,rc), .cel b4 56 [.int .i64 a.1, .int .i64 a.2, .int .i64 b.1, .int .i64 b.2], .cel b5 56 [.int .i64 (min a.1 b.1), .int .i64 (min a.2 b.2)], .cel b6 56 [.int .i64 (max a.1 b.1), .int .i64 (max a.2 b.2)],JY (Bs.N ⟨w,[]⟩) 56 2 y.1 ((S.take y.1).flatMap Js) y.2]) (0,some ⟨b11,0,none⟩,0) (jii _) ⟨J,sz⟩ (fun _ h=>h) ?_
  intro⟨j,qA,qc⟩ hy L hL3
  refine v9 ?_;refine r9 ?_
  have hj:j≤k:=hy
  refine S8 ?_;refine cZ (fun c5=> ?_) (fun c5=> ?_)
  ·have hlt:j<k:=Om
   refine ky (fun w hs=>VJ (k:=2) J hs Om) ?_
   rintro⟨eg,rfl⟩
   have hpj:S[j]? =some (pt S j) := (by rw [List.getElem?_eq_getElem Om,Kk])
   refine S8 ?_;refine a9 (jN (j:=j) J J J Qi Om) ?_;refine S1 ?_;refine a9 (jk J J jj J (jfh (k:=2) J Om)) ?_;refine S1 ?_;refine Jx J J (qM J) J (lb J) (fun b12=> ?_);refine N1 ?_;refine JV (k:=6) J jw jH Dc J Dc J J J (fun w' hs=>Qb hs (k:=7) J J) (by simp [Value.oneCell']) (by unfold maxLen;omega) Om (jih _) (fun r4=> ?_);refine N9 ?_
   exact Ji hL3 ((j+1,r4)) ((show j+1≤k by omega)) (by simp only;omega) ⟨J,vi Om,sz⟩ (fun _ h=>h.upto ⟨J,J,J,J,J,J,by rw [Gh Om,jio];rfl,trivial⟩)
  ·have hje:j=k:=Om
   subst hje
   rw [jiK Om]
   refine S11 ?_;refine jM J (.tmp J) ?_
   intro w' hs
   have hr:=hs.all 6 _ rfl
   exact⟨_,rfl,vv (by rw [←hk];exact hr.1) (fun b hb=> (hr.2.1 b hb).elim id (fun h=>by cases h)),hs.fin⟩
end Go.Proofs.YtpncbbcmoiiipaaGreat
