import Derived.Test.YtkagkgjjfdkoaaaGreatMPathP
set_option linter.unusedVariables false
set_option linter.unusedSimpArgs false
namespace Go.Proofs.YtkagkgjjfdkoaaaGreat
open Go Go.RowKit
set_option maxRecDepth 100000
set_option maxHeartbeats 4000000
section
variable {α:Type} {f:α→List Value} {s:Nat}
theorem Di (hf:∀e,(f e).length=s) (l:List α) : (l.flatMap f).length=l.length*s:=by
 induction l with
 | nil=>simp
 | cons e l ih=>rw [je4,jeC,ih,hf,jeP,Nat.succ_mul,Nat.add_comm]
theorem jbr (hf:∀e,(f e).length=s) (l:List α) (k:Nat) (hk:k≤l.length) : (l.flatMap f).take (k*s) = (l.take k).flatMap f:=by
 conv=>lhs;rw [←jeU k l]
 rw [jeQ,List.take_append_of_le_length (by rw [Di hf,jeV,jfI hk];exact jeD _),jfb (by rw [Di hf,jeV,jfI hk];exact jeD _)]
theorem jbq (hf:∀e,(f e).length=s) (l:List α) (k:Nat) (hk:k≤l.length) : (l.flatMap f).drop (k*s) = (l.drop k).flatMap f:=by
 conv=>lhs;rw [←jeU k l]
 have hl: ((l.take k).flatMap f).length=k*s:=by rw [Di hf,jeV,jfI hk]
 rw [jeQ,←hl,List.drop_left]
theorem jdV (hf:∀e,(f e).length=s) {l:List α} {i:Nat} {e:α} (h:l[i]? =some e) {j:Nat} {v:Value} (hv: (f e)[j]? =some v) : (l.flatMap f)[i*s+j]? =some v:=by
 obtain ⟨hi,rfl⟩ :=List.getElem?_eq_some_iff.1 h
 have hj:= (List.getElem?_eq_some_iff.1 hv).1
 have e1:l=l.take i++ (l[i] ::l.drop (i+1)) :=by rw [←jfi hi,jeU]
 have hl: ((l.take i).flatMap f).length=i*s:=by rw [Di hf,jeV,jfI (by omega)]
 have e2:l.flatMap f= (l.take i).flatMap f++ (f l[i] ++ (l.drop (i+1)).flatMap f) :=by
  conv=>lhs;rw [e1]
  rw [jeQ,je4]
 rw [e2,List.getElem?_append_right (by rw [hl];omega),hl,Nat.add_sub_cancel_left,List.getElem?_append_left hj]
 exact hv
end
theorem jaH {w:World} {B U s m k:Nat} {A:Option Addr} {c:Nat} {xs:List Value} (h:w.ownsRow B U s (.slice A m c) m xs) (hk:k≤m) :Src s (sliced A 0 k c s) k (xs.take (k*s)) w:=by
 have hlen:=h.1
 refine⟨by rw [jeV,hlen,jfI (Nat.mul_le_mul_right _ hk)],?_⟩
 rcases h.2 with⟨e,e2⟩ |⟨g,cap,cur,e,hb,hg,hcap,_⟩
 ·injection e with e1 e3 e4
  subst e1 e2 e4
  obtain rfl:k=0:=by omega
  exact .inl ⟨rfl,rfl⟩
 ·injection e with e1 e3 e4
  subst e1 e4
  rw [VG]
  refine .inr ⟨_,_,J,fun j u hu=>h.cells J j u ?_⟩
  rw [List.getElem?_take] at hu
  split at hu
  ·exact hu
  ·cases hu
theorem jaI {w:World} {B U s m k:Nat} {A:Option Addr} {c:Nat} {xs:List Value} (h:w.ownsRow B U s (.slice A m c) m xs) (hk:k≤m) :Src s (sliced A k m c s) (m- k) (xs.drop (k*s)) w:=by
 have hlen:=h.1
 refine⟨by rw [je2,hlen,Nat.mul_sub_right_distrib],?_⟩
 rcases h.2 with⟨e,e2⟩ |⟨g,cap,cur,e,hb,hg,hcap,_⟩
 ·injection e with e1 e3 e4
  subst e1 e2 e4
  obtain rfl:k=0:=by omega
  exact .inl ⟨rfl,rfl⟩
 ·injection e with e1 e3 e4
  subst e1 e4
  rw [wg hcap hk]
  refine .inr ⟨_,_,J,fun j u hu=> ?_⟩
  rw [List.getElem?_drop] at hu
  have:=h.cells rfl _ u hu
  rw [Qz] at this⊢
  rw [←this]
  congr 2
  unfold Ut
  have hj:= (List.getElem?_eq_some_iff.1 hu).1
  have hks:k*s+j<m*s:=by omega
  have hkc:¬c=k:=fun e=>by
   subst e
   have:m=c:=by omega
   subst this
   omega
  rw [if_neg hkc]
  omega
def Y3 (s x:Sp) :Bool:=decide (s.ln*x.ld- x.ln*s.ld<0) || (decide (s.ln*x.ld- x.ln*s.ld=0) &&s.lc&& !x.lc)
theorem Nk (a b p q:Pn) :Qr vS (OK a b p) (OK a b q) =Y3 (JU a b p) (JU a b q) :=by
 rw [jfo,Qr,decide_eq_true_eq,OS]
 unfold Ew Y3 OK
 simp only [jfs,jeF,decide_eq_true_eq,jfq]
 constructor
 ·rintro(h |⟨h1,h2,h3⟩)
  ·exact .inl (by omega)
  ·exact .inr ⟨⟨by omega,h2⟩,h3⟩
 ·rintro(h |⟨⟨h1,h2⟩,h3⟩)
  ·exact .inl (by omega)
  ·exact .inr ⟨by omega,h2,h3⟩
def VX (a b p q:Pn) :Bool:=Y3 (JU a b p) (JU a b q)
theorem My (a b:Pn) :Weak (VX a b) :=by
 have:=Nz.by (OK a b)
 have e: (fun x y=>Qr vS (OK a b x) (OK a b y)) =VX a b:=by funext p q;exact Nk a b p q
 rwa [e] at this
def Vp (a b:Pn) (l:List Pn) :List Pn:=srt (VX a b) (l.filter (KR a b))
theorem W0 (a b:Pn) (hot:List Pn) :Qj a b hot=Vp a b hot:=by
 unfold Qj Vp KE
 rw [D6 (lt:=VX a b) (fun p _ q _=>Nk a b p q),List.map_map]
 exact List.map_id' _
theorem H6 {a b:Pn} {ys:List Pn} {k:Nat} (hk:k<ys.length) (h:KR a b (pt ys k) =false) :Vp a b (ys.take (k+1)) =Vp a b (ys.take k) :=by
 unfold Vp
 rw [Xo hk,jfW]
 simp [h]
theorem jaN {a b:Pn} {ys:List Pn} {k:Nat} (hk:k<ys.length) (h:KR a b (pt ys k) =true) :Vp a b (ys.take (k+1)) =VS (VX a b) (pt ys k) (Vp a b (ys.take k)) :=by
 unfold Vp
 rw [Xo hk,jfW,show [pt ys k].filter (KR a b) = [pt ys k] by simp [h],MH]
theorem Xn (a b:Pn) (l:List Pn) : (Vp a b l).length≤l.length:=by
 unfold Vp
 rw [Qf]
 exact jf0 _ _
theorem jaM {a b:Pn} {l:List Pn} {p:Pn} (h:p∈Vp a b l) :p∈l:=by
 unfold Vp at h
 rw [zH] at h
 exact(jgf.1 h).1
def stC (a b p:Pn) :List Value:= [.int .i64 p.1, .int .i64 p.2, .int .i64 (JU a b p).ln, .int .i64 (JU a b p).ld, .int .i64 (JU a b p).hn, .int .i64 (JU a b p).hd, .bool (JU a b p).lc, .bool (JU a b p).hc]
theorem D7 (a b p:Pn) : (stC a b p).length=8:=rfl
theorem Np (a b:Pn) (l:List Pn) :∀u∈l.flatMap (stC a b),u.oneCell'=true:=fun u hu=>by
 obtain ⟨p,_,hu⟩ :=jgh.1 hu
 simp only [stC,je0,jfQ,or_false] at hu
 rcases hu with rfl | rfl | rfl | rfl | rfl | rfl | rfl | rfl<;>rfl
theorem Ok (b1 o1 b2 o2:Nat) (s x:Sp) (w:World) (h1:∀q v,(spC s)[q]? =some v→w.cell? ⟨b1,o1+q,none⟩ =some v) (hb1:b1<w.heap.size) (h2:∀q v,(spC x)[q]? =some v→w.cell? ⟨b2,o2+q,none⟩ =some v) (hb2:b2<w.heap.size) (hs:bdP s) (hx:bdP x) :
  Calls Tryz.prog 191 #[.pointer (some ⟨b1,o1,none⟩), .pointer (some ⟨b2,o2,none⟩)] w fun e w'=>e= .returned (.bool (Y3 s x))∧Over w w':=by
 obtain ⟨m1,m2⟩ :=BX hs.low hx.low
 refine jU (m:=44) (Tryz.func191) J J (lb J) ?_;refine S6 ?_;refine Jw 20 ?_;refine dK 0 ?_;refine dK 1 ?_;refine dK 2 ?_;refine dZ 3 rfl (jr rfl rfl jz (by first | exact qU (h1 0 _ rfl) hb1 | exact qU (h1 1 _ rfl) hb1 | exact qU (h1 4 _ rfl) hb1 | exact qU (h2 0 _ rfl) hb2 | exact qU (h2 1 _ rfl) hb2 | exact qU (h2 4 _ rfl) hb2)) ?_;refine dK 4 ?_;refine dK 5 ?_;refine dK 6 ?_;refine dZ 7 rfl (jr rfl rfl jz (by first | exact qU (h1 0 _ rfl) hb1 | exact qU (h1 1 _ rfl) hb1 | exact qU (h1 4 _ rfl) hb1 | exact qU (h2 0 _ rfl) hb2 | exact qU (h2 1 _ rfl) hb2 | exact qU (h2 4 _ rfl) hb2)) ?_;refine dK 8 ?_;refine dK 9 ?_;refine dK 10 ?_;refine dK 11 ?_;refine dZ 12 rfl (jr rfl rfl jz (by first | exact qU (h1 0 _ rfl) hb1 | exact qU (h1 1 _ rfl) hb1 | exact qU (h1 4 _ rfl) hb1 | exact qU (h2 0 _ rfl) hb2 | exact qU (h2 1 _ rfl) hb2 | exact qU (h2 4 _ rfl) hb2)) ?_;refine dK 13 ?_;refine dK 14 ?_;refine dK 15 ?_;refine dZ 16 rfl (jr rfl rfl jz (by first | exact qU (h1 0 _ rfl) hb1 | exact qU (h1 1 _ rfl) hb1 | exact qU (h1 4 _ rfl) hb1 | exact qU (h2 0 _ rfl) hb2 | exact qU (h2 1 _ rfl) hb2 | exact qU (h2 4 _ rfl) hb2)) ?_;refine dK 17 ?_;refine dK 18 ?_;refine dK 19 ?_;refine Jj (by kernel_rfl) ?_;refine S6 ?_;refine cV 27 (fun g1=> ?_) (fun g1=> ?_)
 ·refine S19 ?_;refine jL J (.tmp J) ?_
  intro w' hs
  exact⟨QJ (by unfold Y3;simp_all),hs.fin⟩
 ·refine S6 ?_;refine cV 30 (fun g2=> ?_) (fun g2=> ?_)
  ·refine S7 ?_;refine o9 (jr rfl rfl QC (by first | exact qU (h1 0 _ rfl) hb1 | exact qU (h1 1 _ rfl) hb1 | exact qU (h1 4 _ rfl) hb1 | exact qU (h2 0 _ rfl) hb2 | exact qU (h2 1 _ rfl) hb2 | exact qU (h2 4 _ rfl) hb2)) ?_;refine S4 ?_;refine cV 36 (fun g3=> ?_) (fun g3=> ?_)
   ·refine S7 ?_;refine o9 (jr rfl rfl QC (by first | exact qU (h1 0 _ rfl) hb1 | exact qU (h1 1 _ rfl) hb1 | exact qU (h1 4 _ rfl) hb1 | exact qU (h2 0 _ rfl) hb2 | exact qU (h2 1 _ rfl) hb2 | exact qU (h2 4 _ rfl) hb2)) ?_;refine S8 ?_;refine jL J (.tmp J) ?_
    intro w' hs
    exact⟨QJ (by unfold Y3;simp_all),hs.fin⟩
   ·refine S11 ?_;refine jL J (.tmp J) ?_
    intro w' hs
    exact⟨QJ (by unfold Y3;simp_all),hs.fin⟩
  ·refine S19 ?_;refine jL J (.tmp J) ?_
   intro w' hs
   exact⟨QJ (by unfold Y3;simp_all),hs.fin⟩
theorem CP (b3:Nat) (a b:Pn) (w:World) (h:Pts w (some ⟨b3,0,none⟩) 2 [a,b]) :Calls Tryz.prog 189 #[.slice (some ⟨b3,0,none⟩) 2 2] w fun e w'=>e= .returned (.tuple #[W2 (min a.1 b.1) (min a.2 b.2),W2 (max a.1 b.1) (max a.2 b.2)])∧Over w w':=by
 have:=LM _ 2 2 [a,b] w h (by decide) (by decide)
 exact this
def inS (a b p:Pn) :Sp:=if(Kj (2*a.1) (2* (b.1- a.1)) (2*p.1- 1) &&Kj (2*a.2) (2* (b.2- a.2)) (2*p.2- 1)) =true then JU a b p else Wq
theorem jdb {a b p:Pn} (h:WX a b p=true) :inS a b p=JU a b p:=by
 unfold WX xm at h
 rw [jeF] at h
 exact if_pos h.1
theorem Iw (a b p:Pn) (w:World) (ha:wU a.1 a.2=true) (hb:wU b.1 b.2=true) (hp:wU p.1 p.2=true) :
  Calls Tryz.prog 190 #[pV a,pV b,pV p] w fun e w'=>e= .returned (.tuple #[PY (inS a b p), .bool (WX a b p)])∧Over w w':=
 Oi a.1 a.2 b.1 b.2 p.1 p.2 w ha hb hp
theorem Cx {a b p:Pn} (h:UB a b p=false) : (!(UB a b p&&Yp a b p)) =true:=by rw [h];rfl
theorem jcW {a b p:Pn} (h:Yp a b p=false) : (!(UB a b p&&Yp a b p)) =true:=by rw [h,Bool.and_false];rfl
theorem Z3 {a b p:Pn} (h1:min a.1 b.1- 1≤p.1) (h2:p.1≤max a.1 b.1+1) :UB a b p=true:=by unfold UB;rw [decide_eq_false (jfx.2 h1),decide_eq_false (jfx.2 h2)];rfl
theorem NN {a b p:Pn} (h:p.1>max a.1 b.1+1) :UB a b p=false:=by unfold UB;rw [decide_eq_true h,Bool.or_true];rfl
theorem Cy {a b p:Pn} (h:p.2<min a.2 b.2- 1) :Yp a b p=false:=by unfold Yp;rw [decide_eq_true h];rfl
theorem NP {a b p:Pn} (hx:UB a b p=true) (h:min a.2 b.2- 1≤p.2) :decide (p.2>max a.2 b.2+1) = !(UB a b p&&Yp a b p) :=by rw [hx,jfe];unfold Yp;rw [decide_eq_false (jfx.2 h),Bool.false_or,Bool.not_not]
theorem Bm {a b p:Pn} (h: (UB a b p&&Yp a b p) =false) :KR a b p=false:=by
 unfold KR
 rw [h,jfp]
theorem Ss {a b p:Pn} (h: (UB a b p&&Yp a b p) =true) (hi:WX a b p=true) :KR a b p=true:=by
 unfold KR
 rw [h,hi]
 rfl
def Ba (a b:Pn) (p:Pn) (l:List Pn) (j:Nat) :Bool:=match l[j- 1]? with
 | some q=>VX a b p q
 | none=>false
theorem Si {a b p:Pn} {l:List Pn} {j:Nat} (hj:j≤l.length) (hj0:0<j) (hle:Ba a b p l j=true) (h:∀q∈l.drop j,VX a b p q=true) :∀q∈l.drop (j- 1),VX a b p q=true:=fun q hq=>by
 rw [jfi (by omega),show j- 1+1=j by omega] at hq
 rcases je0.1 hq with rfl | hq
 ·unfold Ba at hle
  rw [List.getElem?_eq_getElem (by omega)] at hle
  exact hle
 ·exact h q hq
theorem Sj {a b p:Pn} {l:List Pn} {j:Nat} (hj:j≤l.length) (h: (decide (0<j) &&Ba a b p l j) =false) :j=0∨∃q,l[j- 1]? =some q∧VX a b p q=false:=by
 by_cases h0:0<j
 ·rw [decide_eq_true h0,jfe] at h
  refine .inr ⟨l[j- 1]'(by omega),List.getElem?_eq_getElem (by omega),?_⟩
  unfold Ba at h
  rw [List.getElem?_eq_getElem (by omega)] at h
  exact h
 ·exact .inl (by omega)
theorem MK (a b:Pn) (l:List Pn) :uW (VX a b) (Vp a b l) :=wj (My a b) _
theorem jai {w:World} {B T m g c j:Nat} {a b:Pn} {l:List Pn} {p:Pn} (h:w.ownsRow B T 8 (.slice (some ⟨g,0,none⟩) m c) m (l.flatMap (stC a b))) (hp:l[j]? =some p) {q:Nat} {v:Value} (hv: (stC a b p)[q]? =some v) :w.cell? ⟨g,0+j*8+q,none⟩ =some v:=by
 have:=h.cells rfl _ v (jdV (D7 a b) hp hv)
 rw [Qz] at this
 rw [je3] at this⊢
 exact this
theorem jb4 {w0:Bs} {Rs:List Res} {k B T m g c j:Nat} {a b:Pn} {l:List Pn} (hk:Rs[k]? =some (JP B T 8 m (l.flatMap (stC a b)) (some ⟨g,0,none⟩,c))) (hj:j<l.length) :∀w',St w0 Rs w'→∀q v,[Value.int .i64 (px l j),Value.int .i64 (py l j)][q]? =some v→w'.cell? ⟨g,0+j*8+0+q,none⟩ =some v:=fun w' hs q v hv=>by
 have hp:l[j]? =some (pt l j) :=by rw [List.getElem?_eq_getElem hj,Kl]
 rw [jgg]
 refine jai (hs.all k _ hk).1 hp ?_
 match q,hv with
 | 0,hv=>exact hv
 | 1,hv=>exact hv
theorem jdB {w:World} {B U m g:Nat} {c:Nat} {xs:List Value} (h:w.ownsRow B U 8 (.slice (some ⟨g,0,none⟩) m c) m xs) :g<w.heap.size:= (h.lt g rfl).2
theorem Ix (a b:Pn) (A:Option Addr) (n c:Nat) (hot:List Pn) (w:World) (h:Pts w A n hot) (ha:wU a.1 a.2=true) (hb:wU b.1 b.2=true) (hh:∀p∈hot,wU p.1 p.2=true) (hn:n≤1048576) :
  Calls Tryz.prog 169 #[pV a,pV b, .slice A n c] w fun e w'=>∃v,e= .returned v∧w'.ownsRow w.heap.size 54 2 v (Qj a b hot).length ((Qj a b hot).flatMap j7)∧Over w w':=by
 have hl:=h.1
 have ha2:bd2 a:=yz ha
 have hb2:bd2 b:=yz hb
 have hp2:∀p∈hot,bd2 p:=fun p hp=>yz (hh p hp)
 obtain ⟨⟨a1,a2⟩,a3,a4⟩ :=id ha2
 obtain ⟨⟨b1',b2'⟩,b3',b4'⟩ :=id hb2
 have hsl2:∀k,(Vp a b (hot.take k)).length≤1048576:=fun k=>by have:=Xn a b (hot.take k);rw [jeV] at this;omega
 have hsp:∀p∈hot,bdP (JU a b p) :=fun p hp=>Bq ha2 hb2 (hp2 p hp)
 rw [W0]
 refine jU (m:=121) (Tryz.func169) J J (lb J) ?_;refine S3 ?_;refine aX (fun b1=> ?_);refine N1 ?_;refine aX (fun b2=> ?_);refine N5 ?_;refine Jp J J (Ws) J (lb J) (fun b3=> ?_);refine vR 2 8 J J ?_;refine N7 ?_;refine Jp J J (vZ J J) J (lb J) (fun b4=> ?_);refine n9 ?_;refine a9 (jH Zy J J (fun w1 hs=>CP _ a b w1 (E7 (k:=3) _ J J w1 hs))) ?_;refine S4 ?_;refine aL (fun b5=> ?_);refine N1 ?_;refine aL (fun b6=> ?_);refine N11 ?_;refine JI (X:=Nat×Option Addr×Nat) (fun x=>x.1≤n) (fun x=>n- x.1) (fun x=> [(7, .slice x.2.1 (Vp a b (hot.take x.1)).length x.2.2),(10, .int .i64 (x.1:Int))]) (kK [2,3,4,6,8,9]) (fun x=> [.cel b1 54 [.int .i64 a.1, .int .i64 a.2], .cel b2 54 [.int .i64 b.1, .int .i64 b.2],JP (Bs.N ⟨w,[]⟩) 217 8 (Vp a b (hot.take x.1)).length ((Vp a b (hot.take x.1)).flatMap (stC a b)) x.2, .cel b4 54 [.int .i64 a.1, .int .i64 a.2, .int .i64 b.1, .int .i64 b.2], .cel b5 54 [.int .i64 (min a.1 b.1), .int .i64 (min a.2 b.2)], .cel b6 54 [.int .i64 (max a.1 b.1), .int .i64 (max a.2 b.2)]]) (0,some ⟨b3,0,none⟩,0) (jeE _) ⟨J,sz⟩ (fun _ h=>h) ?_
 intro⟨i,rA,rc⟩ hx L hL1
 refine v9 ?_;refine ji (by first | (dsimp only;done) | (dsimp only;rfl) | rfl) ?_
 have hi:i≤n:=hx
 obtain ⟨S,hS⟩ :∃S,S=Vp a b (hot.take i) :=⟨_,rfl⟩
 obtain ⟨k,hk⟩ :∃k,k=S.length:=⟨_,rfl⟩
 have hk20:k≤1048576:= (by rw [hk,hS];exact hsl2 i)
 have hsrt:uW (VX a b) S:= (by rw [hS];exact MK a b _)
 have hSm:∀q∈S,q∈hot:= (fun q hq=>jfj (jaM (hS▸hq)))
 rw [←hS,←hk]
 refine S8 ?_;refine cZ (fun c1=> ?_) (fun c1=> ?_)
 ·have hlt:i<n:= (by omega)
  obtain ⟨eb,eo,rfl,_⟩ :=h.2 (by omega)
  have hpm:pt hot i∈hot:= (by rw [←Kl (by omega)];exact jeW _)
  obtain ⟨⟨p1,p2⟩,p3,p4⟩ :=hp2 _ hpm
  refine QF (fun w hs=>wC (hs.all 2 _ J).1) ?_
  intro hcap
  refine S9 ?_;refine a9 (jj J J jl J (Vm (b:=eb) (o:=eo) h hlt)) ?_;refine S1 ?_;refine aL (fun b7=> ?_);refine N4 ?_;refine qd [(65, .bool (!(UB a b (pt hot i) &&Yp a b (pt hot i))))] (kK [2,3,4,6,8,9,7,10,26,27,28,29,32,33,34,35,11]) (fun L h_7=> ?_) ?_
  ·refine S8 ?_;refine cV 42 (fun g1=> ?_) (fun g1=> ?_)
   ·refine S24 ?_
    exact Jb h_7 ⟨vb (Cx (FN (p:=pt hot i) g1)).symm,sz⟩ (u9 J)
   ·refine S14 ?_;refine cV 50 (fun g2=> ?_) (fun g2=> ?_)
    ·refine S16 ?_
     exact Jb h_7 ⟨vb (Cx (NN (p:=pt hot i) g2)).symm,sz⟩ (u9 J)
    ·refine S14 ?_;refine cV 58 (fun g3=> ?_) (fun g3=> ?_)
     ·refine S8 ?_
      exact Jb h_7 ⟨vb (jcW (Cy (p:=pt hot i) g3)).symm,sz⟩ (u9 J)
     ·refine S14 ?_
      exact Jb h_7 ⟨vb (NP (p:=pt hot i) (Z3 g1 g2) g3),sz⟩ (u9 J)
  ·refine v9 ?_;refine cZ (fun c2=> ?_) (fun c2=> ?_)
   ·refine S9 ?_
    exact j8 hL1 ((i+1,rA,rc)) ((show i+1≤n by omega)) (by simp only;omega) ⟨(by rw [H6 (by omega) (Bm c2),←hS,←hk];rfl),vi (by omega),sz⟩ (fun _ h=>h.upto ⟨J,J,by rw [H6 (by omega) (Bm c2),←hS,←hk],sz⟩)
   ·refine S7 ?_;refine a9 (jH xO J J (fun w1 hs=>Iw a b (pt hot i) w1 ha hb (hh _ hpm))) ?_;refine S4 ?_;refine aL (fun b8=> ?_);refine N10 ?_;refine cZ (fun c3=> ?_) (fun c3=> ?_)
    ·refine S9 ?_
     exact j8 hL1 ((i+1,rA,rc)) ((show i+1≤n by omega)) (by simp only;omega) ⟨(by rw [H6 (by omega) (xW c3),←hS,←hk];rfl),vi (by omega),sz⟩ (fun _ h=>h.upto ⟨J,J,by rw [H6 (by omega) (xW c3),←hS,←hk],sz⟩)
    ·rw [jdb c3]
     refine S10 ?_;refine qi (X:=Nat) (fun j=>j≤k∧∀q∈S.drop j,VX a b (pt hot i) q=true) (fun j=>j) (fun j=> [(14, .int .i64 (j:Int))]) (kK [2,3,4,6,8,9,7,10,26,27,28,29,32,33,34,35,11,65,67,68,69,70,66,71,72,12,13,73,74,75,76]) k (⟨jeD _,fun q hq=>by rw [jfB (by omega)] at hq;cases hq⟩) ⟨rfl,sz⟩ ?_
     intro j hj L hL2
     refine v9 ?_
     obtain ⟨hjk,hjq⟩ :=hj
     refine S1 ?_;refine qd [(86, .bool (decide (0<j) &&Ba a b (pt hot i) S j))] (kK [2,3,4,6,8,9,7,10,26,27,28,29,32,33,34,35,11,65,67,68,69,70,66,71,72,12,13,73,74,75,76,14]) (fun L h_11=> ?_) ?_
     ·refine S4 ?_;refine cV 79 (fun g4=> ?_) (fun g4=> ?_)
      ·have hj0:0<j:= (by omega)
       refine QF (fun w hs=>K2 (k:=2) J hs (by omega)) ?_
       rintro⟨eg,rfl⟩
       obtain ⟨q,hq⟩ :∃q,S[j- 1]? =some q:=⟨_,List.getElem?_eq_getElem (by omega)⟩
       have hqm:q∈S:=List.mem_of_getElem? hq
       refine S5 ?_;refine o9 ((JC J J J (by omega) (by omega)).as (congrArg _ (show((j:Int) - 1) = ((j- 1:Nat) :Int) by omega))) ?_;refine h9 ?_;refine o9 (jT (j:=j- 1) J J J qV (by omega)) ?_;refine S3 ?_;refine o9 (jH xQ J J (fun w1 hs=>Ok _ 0 eg (0+ (j- 1) *8+2) (JU a b (pt hot i)) (JU a b q) w1 (fun r v hv=>jF (k:=7) J w1 hs r v hv) (JQ (hs.cel (k:=7) J)) (fun r v hv=>by rw [show 0+ (j- 1) *8+2+r=0+ (j- 1) *8+ (2+r) by omega];exact jai (hs.all 2 _ J).1 hq (by rw [Nat.add_comm];exact hv)) (jdB (hs.all 2 _ J).1) (hsp _ hpm) (hsp q (hSm q hqm)))) ?_;refine S2 ?_
       exact Jb h_11 ⟨vb (by rw [show decide (0<j) =true from decide_eq_true hj0,jfe,Ba,hq];rfl),sz⟩ (u9 J)
      ·refine S8 ?_
       exact Jb h_11 ⟨vb (by rw [show decide (0<j) =false from decide_eq_false (by omega),jfp]),sz⟩ (u9 J)
     ·refine v9 ?_;refine cZ (fun c4=> ?_) (fun c4=> ?_)
      ·simp only [jeF,decide_eq_true_eq] at c4
       obtain ⟨hj0,hle⟩ :=c4
       refine S10 ?_
       exact J8 hL2 (j- 1) (⟨by omega,fun q hq=>Si (by omega) hj0 hle hjq q hq⟩) (by omega) ⟨vi (by omega),sz⟩ (u9 J)
      ·have hins:VS (VX a b) (pt hot i) S=S.take j++pt hot i::S.drop j:=Tx (My a b) hsrt (by omega) hjq (Sj (by omega) c4)
       have hnew:Vp a b (hot.take (i+1)) =S.take j++pt hot i::S.drop j:= (by rw [jaN (by omega) (Ss c2 c3),←hS,hins])
       have hnl: (Vp a b (hot.take (i+1))).length=0+j+1+ (k- j) := (by rw [hnew];simp;omega)
       refine S8 ?_;refine Jp J J (Ws) J (lb J) (fun b9=> ?_);refine vR 8 8 J J ?_;refine N2 ?_;refine a9 (kb J J J qV (by omega)) ?_;refine S1 ?_;refine JL (k:=8) J qV WO (by decide) J (by decide) J J J (fun w' hs=>jaH (hs.all 2 _ J).1 hjk) ((fun u hu=>Np a b S u (jfj hu))) (by unfold maxLen;omega) (by omega) (jeD _) (fun r1=> ?_);refine N7 ?_;refine a9 (JV J J (Yo J J)) ?_;refine S1 ?_;refine Jp J J (UD J) J (lb J) (fun b10=> ?_);refine N1 ?_;refine JL (k:=8) J qV WO (by decide) J (by decide) J J J (fun w' hs=>q6 hs (k:=9) J J) (by simp [Value.oneCell']) (by unfold maxLen;omega) (by omega) (jeD _) (fun r2=> ?_);refine N6 ?_;refine a9 (KL J J J qV (by omega)) ?_;refine S1 ?_;refine JL (k:=8) J qV WO (by decide) J (by decide) J J J (fun w' hs=>jaI (hs.all 2 _ J).1 hjk) ((fun u hu=>Np a b S u (jfy hu))) (by unfold maxLen;omega) (by omega) (jeD _) (fun r3=> ?_);refine N9 ?_
       exact j8 hL1 ((i+1,r3)) ((show i+1≤n by omega)) (by simp only;omega) ⟨(by rw [hnl];rfl),vi (by omega),sz⟩ (fun _ h=> (h.picks [0,1,8,3,4,5] (by decide)).upto ⟨J,J,by rw [hnl,hnew,jbr (D7 a b) S j (by omega),jbq (D7 a b) S j (by omega),jeQ,je4,←jeN];rfl,sz⟩)
 ·have hin:i=n:= (by omega)
  subst hin
  have hSa:S=Vp a b hot:= (by rw [hS,jfb (by omega)])
  rw [←hSa]
  refine S8 ?_;refine Jp J J (kt) J (lb J) (fun b11=> ?_);refine vR 6 2 J J ?_;refine N8 ?_;refine JI (X:=Nat×Option Addr×Nat) (fun y=>y.1≤k) (fun y=>k- y.1) (fun y=> [(16, .slice y.2.1 y.1 y.2.2),(17, .int .i64 (y.1:Int))]) (kK [6,7]) (fun y=> [.cel b1 54 [.int .i64 a.1, .int .i64 a.2], .cel b2 54 [.int .i64 b.1, .int .i64 b.2],JP (Bs.N ⟨w,[]⟩) 217 8 k (S.flatMap (stC a b)) (rA,rc), .cel b4 54 [.int .i64 a.1, .int .i64 a.2, .int .i64 b.1, .int .i64 b.2], .cel b5 54 [.int .i64 (min a.1 b.1), .int .i64 (min a.2 b.2)], .cel b6 54 [.int .i64 (max a.1 b.1), .int .i64 (max a.2 b.2)],JP (Bs.N ⟨w,[]⟩) 54 2 y.1 ((S.take y.1).flatMap j7) y.2]) (0,some ⟨b11,0,none⟩,0) (jeE _) ⟨J,sz⟩ (fun _ h=>h) ?_
  intro⟨j,qA,qc⟩ hy L hL3
  refine v9 ?_;refine ji (by first | (dsimp only;done) | (dsimp only;rfl) | rfl) ?_
  have hj:j≤k:=hy
  refine S8 ?_;refine cZ (fun c5=> ?_) (fun c5=> ?_)
  ·have hlt:j<k:= (by omega)
   refine QF (fun w hs=>K2 (k:=2) J hs (by omega)) ?_
   rintro⟨eg,rfl⟩
   have hpj:S[j]? =some (pt S j) := (by rw [List.getElem?_eq_getElem (by omega),Kl])
   refine S8 ?_;refine a9 (jT (j:=j) J J J qV (by omega)) ?_;refine S1 ?_;refine a9 (jj J J jl J (jb4 (k:=2) J (by omega))) ?_;refine S1 ?_;refine Jp J J (qP J) J (lb J) (fun b12=> ?_);refine N1 ?_;refine JL (k:=6) J jt jO (by decide) J (by decide) J J J (fun w' hs=>q6 hs (k:=7) J J) (by simp [Value.oneCell']) (by unfold maxLen;omega) (by omega) (jeD _) (fun r4=> ?_);refine N9 ?_
   exact j8 hL3 ((j+1,r4)) ((show j+1≤k by omega)) (by simp only;omega) ⟨J,vi (by omega),sz⟩ (fun _ h=>h.upto ⟨J,J,J,J,J,J,by rw [Xo (by omega),jeQ];rfl,trivial⟩)
  ·have hje:j=k:= (by omega)
   subst hje
   rw [jfb (by omega)]
   refine S11 ?_;refine jL J (.tmp J) ?_
   intro w' hs
   have hr:=hs.all 6 _ rfl
   exact⟨_,rfl,KS (by rw [←hk];exact hr.1) (fun b hb=> (hr.2.1 b hb).elim id (fun h=>by cases h)),hs.fin⟩
end Go.Proofs.YtkagkgjjfdkoaaaGreat
