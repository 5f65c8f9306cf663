import Derived.Test.YtjbahemkhphndaaGreatNPathP
set_option linter.unusedVariables false
set_option linter.unusedSimpArgs false
namespace Go.Proofs.YtjbahemkhphndaaGreat
open Go Go.RowKit
variable{A:Option Addr}{B c j k m:Nat}{a b p:Pn}{l ys:List Pn}{v:Value}{w:World}{xs:List Value}
set_option maxRecDepth 100000
set_option maxHeartbeats 4000000
section
variable{α:Type}{f:α->List Value}{s:Nat}
theorem RB(hf:∀e,(f e).length=s)(l:List α):(l.flatMap f).length=l.length*s:=by
 induction l with
 |nil=>simp
 |cons e l ih=>rw[jl4,jlJ,ih,hf,jlS,Nat.succ_mul,Nat.add_comm]
theorem jhh(hf:∀e,(f e).length=s)(l:List α)(k:Nat)(hk:k<=l.length):(l.flatMap f).take (k*s)=(l.take k).flatMap f:=by
 conv=>lhs;rw[<-jl1 k l]
 rw[jlW,List.take_append_of_le_length (by rw[RB hf,jl3,jmO hk];exact jlL _),jme (by rw[RB hf,jl3,jmO hk];exact jlL _)]
theorem jhg(hf:∀e,(f e).length=s)(l:List α)(k:Nat)(hk:k<=l.length):(l.flatMap f).drop (k*s)=(l.drop k).flatMap f:=by
 conv=>lhs;rw[<-jl1 k l]
 have hl:((l.take k).flatMap f).length=k*s:=by rw[RB hf,jl3,jmO hk]
 rw[jlW,<-hl,List.drop_left]
theorem jkT(hf:∀e,(f e).length=s){l:List α}{i:Nat}{e:α}(h:l[i]? =some e)(hv:(f e)[j]? =some v):(l.flatMap f)[i*s+j]? =some v:=by
 obtain⟨hi,rfl⟩:=List.getElem?_eq_some_iff.1 h;have hj:=(List.getElem?_eq_some_iff.1 hv).1
 have e1:l=l.take i++(l[i]::l.drop (i+1)):=by rw[<-jmu hi,jl1]
 have hl:((l.take i).flatMap f).length=i*s:=by rw[RB hf,jl3,jmO Om]
 have e2:l.flatMap f=(l.take i).flatMap f++(f l[i]++(l.drop (i+1)).flatMap f):=by
  conv=>lhs;rw[e1]
  rw[jlW,jl4]
 rw[e2,List.getElem?_append_right (by rw[hl];omega),hl,Nat.add_sub_cancel_left,List.getElem?_append_left hj];exact hv
end
theorem jf9{U s:Nat}(h:w.ownsRow B U s (.slice A m c) m xs)(hk:k<=m):Src s (sliced A 0 k c s) k (xs.take (k*s)) w:=by
 have hlen:=h.1;refine⟨by rw[jl3,hlen,jmO (Nat.mul_le_mul_right _ hk)],?_⟩;rcases h.2 with⟨e,e2⟩|⟨g,cap,cur,e,hb,hg,hcap,_⟩
 .injection e with e1 e3 e4
  subst e1 e2 e4;obtain rfl:k=0:=by omega
  exact .inl ⟨rfl,rfl⟩
 .injection e with e1 e3 e4
  subst e1 e4;rw[ui];refine .inr ⟨_,_,J,λj u hu=>h.cells J j u ?_⟩;rw[List.getElem?_take] at hu;split at hu
  .exact hu
  .cases hu
theorem jga{U s:Nat}(h:w.ownsRow B U s (.slice A m c) m xs)(hk:k<=m):Src s (sliced A k m c s) (m-k) (xs.drop (k*s)) w:=by
 have hlen:=h.1;refine⟨by rw[jmb,hlen,Nat.mul_sub_right_distrib],?_⟩;rcases h.2 with⟨e,e2⟩|⟨g,cap,cur,e,hb,hg,hcap,_⟩
 .injection e with e1 e3 e4
  subst e1 e2 e4;obtain rfl:k=0:=by omega
  exact .inl ⟨rfl,rfl⟩
 .injection e with e1 e3 e4
  subst e1 e4;rw[U0 hcap hk];refine .inr ⟨_,_,J,λj u hu=>?_⟩;rw[List.getElem?_drop] at hu;have:=h.cells rfl _ u hu
  rw[kq] at this⊢;rw[<-this];congr 2;unfold ZG;have hj:=(List.getElem?_eq_some_iff.1 hu).1
  have hks:k*s+j<m*s:=by omega
  have hkc:¬c=k:=λe=>by
   subst e;have:m=c:=by omega
   subst this;omega
  rw[if_neg hkc];omega
def Zw(s x:Sp):Bool:=decide (s.ln*x.ld-x.ln*s.ld<0)||(decide (s.ln*x.ld-x.ln*s.ld=0) &&s.lc&& !x.lc)
theorem jbn(a b p q:Pn):QP VZ (FM a b p) (FM a b q)=Zw (J5 a b p) (J5 a b q):=by
 rw[jl8,QP,decide_eq_true_eq,F2];unfold jeS Zw FM;simp only[jml,jlK,decide_eq_true_eq,jmo];constructor
 .rintro(h|⟨h1,h2,h3⟩)
  .exact .inl Om
  .exact .inr ⟨⟨by omega,h2⟩,h3⟩
 .rintro(h|⟨⟨h1,h2⟩,h3⟩)
  .exact .inl Om
  .exact .inr ⟨by omega,h2,h3⟩
def vc(a b p q:Pn):Bool:=Zw (J5 a b p) (J5 a b q)
theorem zV(a b:Pn):Weak (vc a b):=by
 have:=jbC.by (FM a b);have e:(λx y=>QP VZ (FM a b x) (FM a b y))=vc a b:=by funext p q;exact jbn a b p q
 rwa [e] at this
def ww(a b:Pn)(l:List Pn):List Pn:=Kq (vc a b) (l.filter (K9 a b))
theorem Wd(a b:Pn)(hot:List Pn):qJ a b hot=ww a b hot:=by
 unfold qJ ww vA;rw[SM (lt:=vc a b) (λp _ q _=>jbn a b p q),jni];exact List.map_id' _
theorem O0(hk:k<ys.length)(h:K9 a b (pt ys k)=false):ww a b (ys.take (k+1))=ww a b (ys.take k):=by
 unfold ww;rw[HX hk,jnh];simp[h]
theorem jgf(hk:k<ys.length)(h:K9 a b (pt ys k)=true):ww a b (ys.take (k+1))=wm (vc a b) (pt ys k) (ww a b (ys.take k)):=by
 unfold ww;rw[HX hk,jnh,show [pt ys k].filter (K9 a b)=[pt ys k] by simp[h],DK]
theorem HV(a b:Pn)(l:List Pn):(ww a b l).length<=l.length:=by
 unfold ww;rw[QC];exact jnq _ _
theorem jge(h:p∈ww a b l):p∈l:=by
 unfold ww at h;rw[Xc] at h;exact(jmx.1 h).1
def stC(a b p:Pn):List Value:=[.int .i64 p.1,.int .i64 p.2,.int .i64 (J5 a b p).ln,.int .i64 (J5 a b p).ld,.int .i64 (J5 a b p).hn,.int .i64 (J5 a b p).hd,.bool (J5 a b p).lc,.bool (J5 a b p).hc]
theorem SN(a b p:Pn):(stC a b p).length=8:=rfl
theorem jbr(a b:Pn)(l:List Pn):∀u∈l.flatMap (stC a b),u.oneCell'=true:=λu hu=>by
 obtain⟨p,_,hu⟩:=jm8.1 hu;simp only[stC,jlP,jmi,or_false] at hu;rcases hu with rfl|rfl|rfl|rfl|rfl|rfl|rfl|rfl<;>rfl
theorem Fs(b1 o1 b2 o2:Nat)(s x:Sp)(w:World)(h1:∀q v,(spC s)[q]? =some v->w.cell? ⟨b1,o1+q,none⟩=some v)(hb1:b1<w.heap.size)(h2:∀q v,(spC x)[q]? =some v->w.cell? ⟨b2,o2+q,none⟩=some v)(hb2:b2<w.heap.size)(hs:bdP s)(hx:bdP x):
  Calls Tryz.prog 122 #[.pointer (some ⟨b1,o1,none⟩),.pointer (some ⟨b2,o2,none⟩)] w λe w'=>e=.returned (.bool (Zw s x))/\Over w w':=by
 obtain⟨m1,m2⟩:=Rh hs.low hx.low;refine Jm (m:=44) (Tryz.func122) J J (lb J) ?_;refine S6 ?_;refine JY 20 ?_;refine dK 0 ?_;refine dK 1 ?_;refine dK 2 ?_;refine dZ 3 rfl (jn rfl rfl ju (by first|exact Ql (h1 0 _ rfl) hb1|exact Ql (h1 1 _ rfl) hb1|exact Ql (h1 4 _ rfl) hb1|exact Ql (h2 0 _ rfl) hb2|exact Ql (h2 1 _ rfl) hb2|exact Ql (h2 4 _ rfl) hb2)) ?_;refine dK 4 ?_;refine dK 5 ?_;refine dK 6 ?_;refine dZ 7 rfl (jn rfl rfl ju (by first|exact Ql (h1 0 _ rfl) hb1|exact Ql (h1 1 _ rfl) hb1|exact Ql (h1 4 _ rfl) hb1|exact Ql (h2 0 _ rfl) hb2|exact Ql (h2 1 _ rfl) hb2|exact Ql (h2 4 _ rfl) hb2)) ?_;refine dK 8 ?_;refine dK 9 ?_;refine dK 10 ?_;refine dK 11 ?_;refine dZ 12 rfl (jn rfl rfl ju (by first|exact Ql (h1 0 _ rfl) hb1|exact Ql (h1 1 _ rfl) hb1|exact Ql (h1 4 _ rfl) hb1|exact Ql (h2 0 _ rfl) hb2|exact Ql (h2 1 _ rfl) hb2|exact Ql (h2 4 _ rfl) hb2)) ?_;refine dK 13 ?_;refine dK 14 ?_;refine dK 15 ?_;refine dZ 16 rfl (jn rfl rfl ju (by first|exact Ql (h1 0 _ rfl) hb1|exact Ql (h1 1 _ rfl) hb1|exact Ql (h1 4 _ rfl) hb1|exact Ql (h2 0 _ rfl) hb2|exact Ql (h2 1 _ rfl) hb2|exact Ql (h2 4 _ rfl) hb2)) ?_;refine dK 17 ?_;refine dK 18 ?_;refine dK 19 ?_;refine JK Kr ?_;refine S6 ?_;refine cV 27 (λg1=>?_) (λg1=>?_)
 .refine S19 ?_;refine jK J (.tmp J) ?_;intro w' hs;exact⟨Q4 (by unfold Zw;simp_all),hs.fin⟩
 .refine S6 ?_;refine cV 30 (λg2=>?_) (λg2=>?_)
  .refine S7 ?_;refine o9 (jn rfl rfl QT (by first|exact Ql (h1 0 _ rfl) hb1|exact Ql (h1 1 _ rfl) hb1|exact Ql (h1 4 _ rfl) hb1|exact Ql (h2 0 _ rfl) hb2|exact Ql (h2 1 _ rfl) hb2|exact Ql (h2 4 _ rfl) hb2)) ?_;refine S4 ?_;refine cV 36 (λg3=>?_) (λg3=>?_)
   .refine S7 ?_;refine o9 (jn rfl rfl QT (by first|exact Ql (h1 0 _ rfl) hb1|exact Ql (h1 1 _ rfl) hb1|exact Ql (h1 4 _ rfl) hb1|exact Ql (h2 0 _ rfl) hb2|exact Ql (h2 1 _ rfl) hb2|exact Ql (h2 4 _ rfl) hb2)) ?_;refine S8 ?_;refine jK J (.tmp J) ?_
    intro w' hs;exact⟨Q4 (by unfold Zw;simp_all),hs.fin⟩
   .refine S11 ?_;refine jK J (.tmp J) ?_;intro w' hs;exact⟨Q4 (by unfold Zw;simp_all),hs.fin⟩
  .refine S19 ?_;refine jK J (.tmp J) ?_;intro w' hs;exact⟨Q4 (by unfold Zw;simp_all),hs.fin⟩
theorem jd3(b3:Nat)(a b:Pn)(w:World)(h:Pts w (some ⟨b3,0,none⟩) 2 [a,b]):Calls Tryz.prog 22 #[.slice (some ⟨b3,0,none⟩) 2 2] w λe w'=>e=.returned (.tuple #[Wh (min a.1 b.1) (min a.2 b.2),Wh (max a.1 b.1) (max a.2 b.2)])/\Over w w':=by
 have:=Z9 _ 2 2 [a,b] w h Dc Dc;exact this
def inS(a b p:Pn):Sp:=if(va (2*a.1) (2*(b.1-a.1)) (2*p.1-1) &&va (2*a.2) (2*(b.2-a.2)) (2*p.2-1))=true then J5 a b p else ux
theorem jjH(h:Vx a b p=true):inS a b p=J5 a b p:=by
 unfold Vx G1 at h;rw[jlK] at h;exact if_pos h.1
theorem Ny(a b p:Pn)(w:World)(ha:WT a.1 a.2=true)(hb:WT b.1 b.2=true)(hp:WT p.1 p.2=true):
  Calls Tryz.prog 121 #[pV a,pV b,pV p] w λe w'=>e=.returned (.tuple #[spV (inS a b p),.bool (Vx a b p)])/\Over w w':=
 Fr a.1 a.2 b.1 b.2 p.1 p.2 w ha hb hp
theorem jdI(h:Yk a b p=false):(!(Yk a b p&&ZB a b p))=true:=by rw[h];rfl
theorem jjm(h:ZB a b p=false):(!(Yk a b p&&ZB a b p))=true:=by rw[h,jno];rfl
theorem GO(h1:min a.1 b.1-1<=p.1)(h2:p.1<=max a.1 b.1+1):Yk a b p=true:=by unfold Yk;rw[decide_eq_false (jmS.2 h1),decide_eq_false (jmS.2 h2)];rfl
theorem jbT(h:p.1>max a.1 b.1+1):Yk a b p=false:=by unfold Yk;rw[decide_eq_true h,Bool.or_true];rfl
theorem jdJ(h:p.2<min a.2 b.2-1):ZB a b p=false:=by unfold ZB;rw[decide_eq_true h];rfl
theorem jbV(hx:Yk a b p=true)(h:min a.2 b.2-1<=p.2):decide (p.2>max a.2 b.2+1)= !(Yk a b p&&ZB a b p):=by rw[hx,jlZ];unfold ZB;rw[decide_eq_false (jmS.2 h),Bool.false_or,Bool.not_not]
theorem Iz(h:(Yk a b p&&ZB a b p)=false):K9 a b p=false:=by
 unfold K9;rw[h,jmg]
theorem C8(h:(Yk a b p&&ZB a b p)=true)(hi:Vx a b p=true):K9 a b p=true:=by
 unfold K9;rw[h,hi];rfl
def Im(a b:Pn)(p:Pn)(l:List Pn)(j:Nat):Bool:=match l[j-1]? with
 |some q=>vc a b p q
 |none=>false
theorem CT(hj:j<=l.length)(hj0:0<j)(hle:Im a b p l j=true)(h:∀q∈l.drop j,vc a b p q=true):∀q∈l.drop (j-1),vc a b p q=true:=λq hq=>by
 rw[jmu Om,show j-1+1=j by omega] at hq;rcases jlP.1 hq with rfl|hq
 .unfold Im at hle;rw[List.getElem?_eq_getElem Om] at hle;exact hle
 .exact h q hq
theorem CU(hj:j<=l.length)(h:(decide (0<j) &&Im a b p l j)=false):j=0\/∃q,l[j-1]? =some q/\vc a b p q=false:=by
 by_cases h0:0<j
 .rw[decide_eq_true h0,jlZ] at h;refine .inr ⟨l[j-1]'(by omega),List.getElem?_eq_getElem Om,?_⟩;unfold Im at h;rw[List.getElem?_eq_getElem Om] at h;exact h
 .exact .inl Om
theorem xz(a b:Pn)(l:List Pn):ya (vc a b) (ww a b l):=Wj (zV a b) _
theorem jfG{T g:Nat}(h:w.ownsRow B T 8 (.slice (some ⟨g,0,none⟩) m c) m (l.flatMap (stC a b)))(hp:l[j]? =some p){q:Nat}(hv:(stC a b p)[q]? =some v):w.cell? ⟨g,0+j*8+q,none⟩=some v:=by
 have:=h.cells rfl _ v (jkT (SN a b) hp hv);rw[kq] at this;rw[jmd] at this⊢;exact this
theorem jig{w0:Bs}{Rs:List Res}{T g:Nat}(hk:Rs[k]? =some (JV B T 8 m (l.flatMap (stC a b)) (some ⟨g,0,none⟩,c)))(hj:j<l.length):∀w',St w0 Rs w'->∀q v,[Value.int .i64 (px l j),Value.int .i64 (py l j)][q]? =some v->w'.cell? ⟨g,0+j*8+0+q,none⟩=some v:=λw' hs q v hv=>by
 have hp:l[j]? =some (pt l j):=by rw[List.getElem?_eq_getElem hj,KO]
 rw[jnC];refine jfG (hs.all k _ hk).1 hp ?_
 match q,hv with
 |0,hv=>exact hv
 |1,hv=>exact hv
theorem jkm{U g:Nat}(h:w.ownsRow B U 8 (.slice (some ⟨g,0,none⟩) m c) m xs):g<w.heap.size:=(h.lt g rfl).2
theorem Nz(a b:Pn)(A:Option Addr)(n c:Nat)(hot:List Pn)(w:World)(h:Pts w A n hot)(ha:WT a.1 a.2=true)(hb:WT b.1 b.2=true)(hh:∀p∈hot,WT p.1 p.2=true)(hn:n<=1048576):
  Calls Tryz.prog 103 #[pV a,pV b,.slice A n c] w λe w'=>∃v,e=.returned v/\w'.ownsRow w.heap.size 36 2 v (qJ a b hot).length ((qJ a b hot).flatMap Jt)/\Over w w':=by
 have hl:=h.1;have ha2:bd2 a:=zK ha
 have hb2:bd2 b:=zK hb;have hp2:∀p∈hot,bd2 p:=λp hp=>zK (hh p hp)
 obtain⟨⟨a1,a2⟩,a3,a4⟩:=id ha2;obtain⟨⟨b1',b2'⟩,b3',b4'⟩:=id hb2;have hsl2:∀k,(ww a b (hot.take k)).length<=1048576:=λk=>by have:=HV a b (hot.take k);rw[jl3] at this;omega
 have hsp:∀p∈hot,bdP (J5 a b p):=λp hp=>ID ha2 hb2 (hp2 p hp)
 rw[Wd];refine Jm (m:=121) (Tryz.func103) J J (lb J) ?_;refine S3 ?_;refine aX (λb1=>?_);refine N1 ?_;refine aX (λb2=>?_);refine N5 ?_;refine j5 J J (uz) J (lb J) (λb3=>?_);refine W0 2 8 J J ?_;refine N7 ?_;refine j5 J J (wh J J) J (lb J) (λb4=>?_);refine n9 ?_;refine a9 (jT Gd J J (λw1 hs=>jd3 _ a b w1 (jfv (k:=3) _ J J w1 hs))) ?_;refine S4 ?_;refine aL (λb5=>?_);refine N1 ?_;refine aL (λb6=>?_);refine N11 ?_;refine JW (X:=Nat×Option Addr×Nat) (λx=>x.1<=n) (λx=>n-x.1) (λx=>[(7,.slice x.2.1 (ww a b (hot.take x.1)).length x.2.2),(10,.int .i64 (x.1:Int))]) (kK [2,3,4,6,8,9]) (λx=>[.cel b1 36 [.int .i64 a.1,.int .i64 a.2],.cel b2 36 [.int .i64 b.1,.int .i64 b.2],JV (Bs.N ⟨w,[]⟩) 167 8 (ww a b (hot.take x.1)).length ((ww a b (hot.take x.1)).flatMap (stC a b)) x.2,.cel b4 36 [.int .i64 a.1,.int .i64 a.2,.int .i64 b.1,.int .i64 b.2],.cel b5 36 [.int .i64 (min a.1 b.1),.int .i64 (min a.2 b.2)],.cel b6 36 [.int .i64 (max a.1 b.1),.int .i64 (max a.2 b.2)]]) (0,some ⟨b3,0,none⟩,0) (jlN _) ⟨J,sz⟩ (λ_ h=>h) ?_;intro⟨i,rA,rc⟩ hx L hL1;refine v9 ?_;refine r9 ?_;have hi:i<=n:=hx
 obtain⟨S,hS⟩:∃S,S=ww a b (hot.take i):=⟨_,rfl⟩;obtain⟨k,hk⟩:∃k,k=S.length:=⟨_,rfl⟩;have hk20:k<=1048576:=(by rw[hk,hS];exact hsl2 i)
 have hsrt:ya (vc a b) S:=(by rw[hS];exact xz a b _);have hSm:∀q∈S,q∈hot:=(λq hq=>jmp (jge (hS▸hq)))
 rw[<-hS,<-hk];refine S8 ?_;refine cZ (λc1=>?_) (λc1=>?_)
 .have hlt:i<n:=Om;obtain⟨eb,eo,rfl,_⟩:=h.2 Om;have hpm:pt hot i∈hot:=(by rw[<-KO Om];exact jlY _)
  obtain⟨⟨p1,p2⟩,p3,p4⟩:=hp2 _ hpm;refine kW (λw hs=>UD (hs.all 2 _ J).1) ?_;intro hcap;refine S9 ?_;refine a9 (jj J J jk J (WM (b:=eb) (o:=eo) h hlt)) ?_;refine S1 ?_;refine aL (λb7=>?_);refine N4 ?_;refine qH [(65,.bool (!(Yk a b (pt hot i) &&ZB a b (pt hot i))))] (kK [2,3,4,6,8,9,7,10,26,27,28,29,32,33,34,35,11]) (λL h_7=>?_) ?_
  .refine S8 ?_;refine cV 42 (λg1=>?_) (λg1=>?_)
   .refine S24 ?_;exact Jx h_7 ⟨vb (jdI (TF (p:=pt hot i) g1)).symm,sz⟩ (u9 J)
   .refine S14 ?_;refine cV 50 (λg2=>?_) (λg2=>?_)
    .refine S16 ?_;exact Jx h_7 ⟨vb (jdI (jbT (p:=pt hot i) g2)).symm,sz⟩ (u9 J)
    .refine S14 ?_;refine cV 58 (λg3=>?_) (λg3=>?_)
     .refine S8 ?_;exact Jx h_7 ⟨vb (jjm (jdJ (p:=pt hot i) g3)).symm,sz⟩ (u9 J)
     .refine S14 ?_;exact Jx h_7 ⟨vb (jbV (p:=pt hot i) (GO g1 g2) g3),sz⟩ (u9 J)
  .refine v9 ?_;refine cZ (λc2=>?_) (λc2=>?_)
   .refine S9 ?_;exact Jn hL1 ((i+1,rA,rc)) ((show i+1<=n by omega)) (by simp only;omega) ⟨(by rw[O0 Om (Iz c2),<-hS,<-hk];rfl),vi Om,sz⟩ (λ_ h=>h.upto ⟨J,J,by rw[O0 Om (Iz c2),<-hS,<-hk],sz⟩)
   .refine S7 ?_;refine a9 (jT Hr J J (λw1 hs=>Ny a b (pt hot i) w1 ha hb (hh _ hpm))) ?_;refine S4 ?_;refine aL (λb8=>?_);refine N10 ?_;refine cZ (λc3=>?_) (λc3=>?_)
    .refine S9 ?_;exact Jn hL1 ((i+1,rA,rc)) ((show i+1<=n by omega)) (by simp only;omega) ⟨(by rw[O0 Om (HA c3),<-hS,<-hk];rfl),vi Om,sz⟩ (λ_ h=>h.upto ⟨J,J,by rw[O0 Om (HA c3),<-hS,<-hk],sz⟩)
    .rw[jjH c3];refine S10 ?_;refine qD (X:=Nat) (λj=>j<=k/\∀q∈S.drop j,vc a b (pt hot i) q=true) (λj=>j) (λj=>[(14,.int .i64 (j:Int))]) (kK [2,3,4,6,8,9,7,10,26,27,28,29,32,33,34,35,11,65,67,68,69,70,66,71,72,12,13,73,74,75,76]) k (⟨jlL _,λq hq=>by rw[jmG Om] at hq;cases hq⟩) ⟨rfl,sz⟩ ?_;intro j hj L hL2;refine v9 ?_;obtain⟨hjk,hjq⟩:=hj;refine S1 ?_;refine qH [(86,.bool (decide (0<j) &&Im a b (pt hot i) S j))] (kK [2,3,4,6,8,9,7,10,26,27,28,29,32,33,34,35,11,65,67,68,69,70,66,71,72,12,13,73,74,75,76,14]) (λL h_11=>?_) ?_
     .refine S4 ?_;refine cV 79 (λg4=>?_) (λg4=>?_)
      .have hj0:0<j:=Om;refine kW (λw hs=>V4 (k:=2) J hs Om) ?_;rintro⟨eg,rfl⟩;obtain⟨q,hq⟩:∃q,S[j-1]? =some q:=⟨_,List.getElem?_eq_getElem Om⟩;have hqm:q∈S:=List.mem_of_getElem? hq
       refine S5 ?_;refine o9 ((JP J J J Om Om).as (congrArg _ (show((j:Int)-1)=((j-1:Nat):Int) by omega))) ?_;refine h9 ?_;refine o9 (jQ (j:=j-1) J J J Qm Om) ?_;refine S3 ?_;refine o9 (jT Hv J J (λw1 hs=>Fs _ 0 eg (0+(j-1)*8+2) (J5 a b (pt hot i)) (J5 a b q) w1 (λr v hv=>jZ (k:=7) J w1 hs r v hv) (J3 (hs.cel (k:=7) J)) (λr v hv=>by rw[show 0+(j-1)*8+2+r=0+(j-1)*8+(2+r) by omega];exact jfG (hs.all 2 _ J).1 hq (by rw[Nat.add_comm];exact hv)) (jkm (hs.all 2 _ J).1) (hsp _ hpm) (hsp q (hSm q hqm)))) ?_;refine S2 ?_;exact Jx h_11 ⟨vb (by rw[show decide (0<j)=true from decide_eq_true hj0,jlZ,Im,hq];rfl),sz⟩ (u9 J)
      .refine S8 ?_;exact Jx h_11 ⟨vb (by rw[show decide (0<j)=false from decide_eq_false Om,jmg]),sz⟩ (u9 J)
     .refine v9 ?_;refine cZ (λc4=>?_) (λc4=>?_)
      .simp only[jlK,decide_eq_true_eq] at c4;obtain⟨hj0,hle⟩:=c4;refine S10 ?_;exact J6 hL2 (j-1) (⟨by omega,λq hq=>CT Om hj0 hle hjq q hq⟩) Om ⟨vi Om,sz⟩ (u9 J)
      .have hins:wm (vc a b) (pt hot i) S=S.take j++pt hot i::S.drop j:=jah (zV a b) hsrt Om hjq (CU Om c4);have hnew:ww a b (hot.take (i+1))=S.take j++pt hot i::S.drop j:=(by rw[jgf Om (C8 c2 c3),<-hS,hins])
       have hnl:(ww a b (hot.take (i+1))).length=0+j+1+(k-j):=(by rw[hnew];simp;omega);refine S8 ?_;refine j5 J J (uz) J (lb J) (λb9=>?_);refine W0 8 8 J J ?_;refine N2 ?_;refine a9 (KQ J J J Qm Om) ?_;refine S1 ?_;refine JQ (k:=8) J Qm Uf Dc J Dc J J J (λw' hs=>jf9 (hs.all 2 _ J).1 hjk) ((λu hu=>jbr a b S u (jmp hu))) (by unfold maxLen;omega) Om (jlL _) (λr1=>?_);refine N7 ?_;refine a9 (JD J J (ZS J J)) ?_;refine S1 ?_;refine j5 J J (YG J) J (lb J) (λb10=>?_);refine N1 ?_;refine JQ (k:=8) J Qm Uf Dc J Dc J J J (λw' hs=>qL hs (k:=9) J J) (by simp[Value.oneCell']) (by unfold maxLen;omega) Om (jlL _) (λr2=>?_);refine N6 ?_;refine a9 (VR J J J Qm Om) ?_;refine S1 ?_;refine JQ (k:=8) J Qm Uf Dc J Dc J J J (λw' hs=>jga (hs.all 2 _ J).1 hjk) ((λu hu=>jbr a b S u (jmy hu))) (by unfold maxLen;omega) Om (jlL _) (λr3=>?_);refine N9 ?_;exact Jn hL1 ((i+1,r3)) ((show i+1<=n by omega)) (by simp only;omega) ⟨(by rw[hnl];rfl),vi Om,sz⟩ (λ_ h=>(h.picks [0,1,8,3,4,5] Dc).upto ⟨J,J,by rw[hnl,hnew,jhh (SN a b) S j Om,jhg (SN a b) S j Om,jlW,jl4,<-jlT];rfl,sz⟩)
 .have hin:i=n:=Om;subst hin;have hSa:S=ww a b hot:=(by rw[hS,jme Om])
  rw[<-hSa];refine S8 ?_;refine j5 J J (Vc) J (lb J) (λb11=>?_);refine W0 6 2 J J ?_;refine N8 ?_;refine JW (X:=Nat×Option Addr×Nat) (λy=>y.1<=k) (λy=>k-y.1) (λy=>[(16,.slice y.2.1 y.1 y.2.2),(17,.int .i64 (y.1:Int))]) (kK [6,7]) (λy=>[.cel b1 36 [.int .i64 a.1,.int .i64 a.2],.cel b2 36 [.int .i64 b.1,.int .i64 b.2],JV (Bs.N ⟨w,[]⟩) 167 8 k (S.flatMap (stC a b)) (rA,rc),.cel b4 36 [.int .i64 a.1,.int .i64 a.2,.int .i64 b.1,.int .i64 b.2],.cel b5 36 [.int .i64 (min a.1 b.1),.int .i64 (min a.2 b.2)],.cel b6 36 [.int .i64 (max a.1 b.1),.int .i64 (max a.2 b.2)],JV (Bs.N ⟨w,[]⟩) 36 2 y.1 ((S.take y.1).flatMap Jt) y.2]) (0,some ⟨b11,0,none⟩,0) (jlN _) ⟨J,sz⟩ (λ_ h=>h) ?_;intro⟨j,qA,qc⟩ hy L hL3;refine v9 ?_;refine r9 ?_;have hj:j<=k:=hy
  refine S8 ?_;refine cZ (λc5=>?_) (λc5=>?_)
  .have hlt:j<k:=Om;refine kW (λw hs=>V4 (k:=2) J hs Om) ?_;rintro⟨eg,rfl⟩;have hpj:S[j]? =some (pt S j):=(by rw[List.getElem?_eq_getElem Om,KO])
   refine S8 ?_;refine a9 (jQ (j:=j) J J J Qm Om) ?_;refine S1 ?_;refine a9 (jj J J jk J (jig (k:=2) J Om)) ?_;refine S1 ?_;refine j5 J J (qq J) J (lb J) (λb12=>?_);refine N1 ?_;refine JQ (k:=6) J jw jG Dc J Dc J J J (λw' hs=>qL hs (k:=7) J J) (by simp[Value.oneCell']) (by unfold maxLen;omega) Om (jlL _) (λr4=>?_);refine N9 ?_;exact Jn hL3 ((j+1,r4)) ((show j+1<=k by omega)) (by simp only;omega) ⟨J,vi Om,sz⟩ (λ_ h=>h.upto ⟨J,J,J,J,J,J,by rw[HX Om,jlW];rfl,trivial⟩)
  .have hje:j=k:=Om;subst hje;rw[jme Om];refine S11 ?_;refine jK J (.tmp J) ?_;intro w' hs;have hr:=hs.all 6 _ rfl
   exact⟨_,rfl,vM (by rw[<-hk];exact hr.1) (λb hb=>(hr.2.1 b hb).elim id (λh=>by cases h)),hs.fin⟩
end Go.Proofs.YtjbahemkhphndaaGreat
