import Derived.Test.YtjbahemkhphndaaGreatNPathP
import Derived.Test.YtjbahemkhphndaaGreatNEnds
import Derived.Test.YtjbahemkhphndaaGreatNSd2
import Derived.Test.YtjbahemkhphndaaGreatNSnapB
import Derived.Shelf.SlSortCmp.WholeK
import Derived.Test.YtjbahemkhphndaaGreatNHot
set_option linter.unusedVariables false
set_option linter.unusedSimpArgs false
namespace Go.Proofs.YtjbahemkhphndaaGreat
open Go Go.RowKit
variable{A:Option Addr}{K:Act->World->Prop}{Rs:List Res}{env:List (Nat×Value)}{l:List Pc}{n:Nat}{rs:List jI}{w:World}{x:Option Addr×Nat}
set_option maxRecDepth 100000
set_option maxHeartbeats 4000000
theorem jhz{xs ys:List Pn}(hl:xs.length=ys.length)(h:∀j,j<xs.length->pt xs j=pt ys j):xs=ys:=by
 apply jm5 hl;intro i h1 h2;rw[KO h1,KO h2];exact h i h1
theorem jbF(A B:Option Addr)(n m c d:Nat)(xs ys:List Pn)(w:World)(h:Pts w A n xs)(h':Pts w B m ys)(hn:(n:Int)<=9223372036854775807):
  Calls Tryz.prog 52 #[.slice A n c,.slice B m d] w λe w'=>e=.returned (.bool (decide (xs=ys)))/\Over w w':=by
 have hl:=h.1;have hl':=h'.1
 refine Jm (m:=26) (Tryz.func52) J J (lb J) ?_;refine S13 ?_;refine cZ (λc1=>?_) (λc1=>?_)
 .refine S6 ?_;refine jK J (.tmp J) ?_;intro w' hs;exact⟨Q4 (decide_eq_false (λe=>by subst e;omega)).symm,hs.fin⟩
 .have hnm:n=m:=Om;subst hnm;refine S10 ?_;refine qD (X:=Nat) (λk=>k<=n/\∀j,j<k->pt xs j=pt ys j) (λk=>n-k) (λk=>[(13,.int .i64 (k:Int))]) (kK [0,1,4,12]) 0 (⟨jlN _,λj hj=>absurd hj Om⟩) ⟨J,sz⟩ ?_;intro k hk L hL1;refine v9 ?_;obtain⟨hk1,hk2⟩:=hk;refine S5 ?_;refine cZ (λc2=>?_) (λc2=>?_)
  .have hlt:k<n:=Om;obtain⟨eb,eo,rfl,_⟩:=h.2 Om;obtain⟨fb,fo,rfl,_⟩:=h'.2 Om;refine S11 ?_;refine JY 9 ?_;refine dK 0 ?_;refine dK 1 ?_;refine dK 2 ?_;refine dZ 3 J (jj J J jk J (WM (b:=eb) (o:=eo) h hlt)) ?_;refine dK 4 ?_;refine dK 5 ?_;refine dK 6 ?_;refine dZ 7 J (jj J J jk J (WM (b:=fb) (o:=fo) h' hlt)) ?_;refine dK 8 ?_;refine JK Kr ?_;refine S1 ?_;refine cZ (λc3=>?_) (λc3=>?_)
   .refine S10 ?_;refine jK J (.tmp J) ?_;intro w' hs;exact⟨Q4 (decide_eq_false (λe=>by subst e;simp at c3)).symm,hs.fin⟩
   .have he:pt xs k=pt ys k:=(by simp at c3;exact Prod.ext c3.1 c3.2);refine S7 ?_;exact J6 hL1 (k+1) (⟨by omega,λj hj=>by by_cases hjk:j=k;rw[hjk];exact he;exact hk2 j Om⟩) Om ⟨vi Om,sz⟩ (u9 rfl)
  .refine S10 ?_;refine jK J (.tmp J) ?_;intro w' hs;exact⟨Q4 (decide_eq_true (jhz Om λj hj=>hk2 j Om)).symm,hs.fin⟩
theorem SC(A B:Option Addr)(n m c d:Nat)(xs ys:List Pn)(w:World)(h:Pts w A n xs)(h':Pts w B m ys)(hn:(n:Int)<=9223372036854775807):
  Calls Tryz.prog 51 #[XE A n c,XE B m d] w λe w'=>e=.returned (.bool (decide (xs=ys)))/\Over w w':=by
 refine Jm (m:=10) (Tryz.func51) J J (lb J) ?_;refine S3 ?_;refine aX (λb1=>?_);refine N1 ?_;refine aX (λb2=>?_);refine N8 ?_;refine a9 (jT Wt J J (λw1 hs=>jbF A B n m c d xs ys w1 (h.over hs.fin) (h'.over hs.fin) hn)) ?_;refine S3 ?_;refine jK J (.tmp J) ?_;intro w' hs;exact⟨rfl,hs.fin⟩
theorem Fb(A B:Option Addr)(n m c d:Nat)(rs ss:List jI)(w:World)(h:Rings w A n rs)(h':Rings w B m ss)(hn:(n:Int)<=9223372036854775807):
  Calls Tryz.prog 50 #[.slice A n c,.slice B m d,.func (.func 51) #[] #[]] w λe w'=>e=.returned (.bool (decide (rs=ss)))/\Over w w':=by
 have hl:=h.1;have hl':=h'.1
 refine Jm (m:=32) (Tryz.func50) J J (lb J) ?_;refine S13 ?_;refine cZ (λc1=>?_) (λc1=>?_)
 .refine S6 ?_;refine jK J (.tmp J) ?_;intro w' hs;exact⟨Q4 (decide_eq_false (λe=>by subst e;omega)).symm,hs.fin⟩
 .have hnm:n=m:=Om;subst hnm;refine S10 ?_;refine qD (X:=Nat) (λk=>k<=n/\∀j,j<k->rg rs j=rg ss j) (λk=>n-k) (λk=>[(17,.int .i64 (k:Int))]) (kK [1,2,6,15,16]) 0 (⟨jlN _,λj hj=>absurd hj Om⟩) ⟨J,sz⟩ ?_;intro k hk L hL1;refine v9 ?_;obtain⟨hk1,hk2⟩:=hk;refine S5 ?_;refine cZ (λc2=>?_) (λc2=>?_)
  .have hlt:k<n:=Om;obtain⟨eb,eo,Ak,ck,rfl,hbB,hcell,hpts,hmax⟩:=h.at_ hlt;obtain⟨fb,fo,Bk,dk,rfl,hbB2,hcell2,hpts2,hmax2⟩:=h'.at_ hlt;refine S8 ?_;refine a9 (jj J J Jz J (Wv hcell hbB)) ?_;refine S1 ?_;refine aL (λb1=>?_);refine N9 ?_;refine a9 (jj J J Jz J (Wv hcell2 hbB2)) ?_;refine S1 ?_;refine aL (λb2=>?_);refine N8 ?_;refine a9 (VO xf J J J (λw1 hs=>SC Ak Bk _ _ ck dk (rg rs k) (rg ss k) w1 (hpts.over hs.fin) (hpts2.over hs.fin) hmax)) ?_;refine S2 ?_;refine cZ (λc3=>?_) (λc3=>?_)
   .refine S10 ?_;refine jK J (.tmp J) ?_;intro w' hs;exact⟨Q4 (decide_eq_false (λe=>by subst e;simp at c3)).symm,hs.fin⟩
   .have he:rg rs k=rg ss k:=(by simpa using c3);refine S7 ?_;exact J6 hL1 (k+1) (⟨by omega,λj hj=>by by_cases hjk:j=k;rw[hjk];exact he;exact hk2 j Om⟩) Om ⟨vi Om,sz⟩ (u9 rfl)
  .refine S10 ?_;refine jK J (.tmp J) ?_;intro w' hs;exact⟨Q4 (decide_eq_true (jkl Om λj hj=>hk2 j Om)).symm,hs.fin⟩
theorem ZJ(A B:Option Addr)(n m c d:Nat)(rs ss:List jI)(w:World)(h:Rings w A n rs)(h':Rings w B m ss)(hn:(n:Int)<=9223372036854775807):
  Calls Tryz.prog 29 #[qU A n c,qU B m d] w λe w'=>e=.returned (.bool (decide (rs=ss)))/\Over w w':=by
 refine Jm (m:=10) (Tryz.func29) J J (lb J) ?_;refine S3 ?_;refine aX (λb1=>?_);refine N1 ?_;refine aX (λb2=>?_);refine N8 ?_;refine a9 (jT kL J J (λw1 hs=>Fb A B n m c d rs ss w1 (h.over hs.fin) (h'.over hs.fin) hn)) ?_;refine S3 ?_;refine jK J (.tmp J) ?_;intro w' hs;exact⟨rfl,hs.fin⟩
theorem jaR(h:(KD l).P w){e:Pc}(he:e∈l):Pts w e.A e.xs.length e.xs:=by
 have h1:=(h.1 e.res (jlR.2 ⟨e,he,rfl⟩)).1;exact(jfw h1).pts
theorem L0{B T:Nat}(hr:(JV B T 1 n (l.map Pc.val) x).P w)(hP:(KD l).P w)(hl:l.length=n)(hs:∀e∈l,e.xs.length<=1099511627776):Rings w x.1 n (l.map (·.xs)):=by
 have hrow:w.ownsRow B T 1 (.slice x.1 n x.2) n (l.map Pc.val):=hr;refine⟨by rw[jlV,hl],λh0=>?_⟩;rcases hrow.2 with⟨_,e⟩|⟨g,cap,cur,e,hb,hg,_⟩
 .omega
 .injection e with e1 e2 e3
  refine⟨g,0,e1,J3 hg,λk hk=>?_⟩;have hkl:k<l.length:=by omega
  have hm:=jlY hkl;rw[zQ hkl];refine⟨l[k].A,l[k].c,?_,jaR hP hm,by have:=hs _ hm;omega⟩;have:=hrow.cells (g:=g) (by show Value.ownBlock (.slice x.1 n x.2)=some g;rw[e1];rfl) k l[k].val (by rw[List.getElem?_map,List.getElem?_eq_getElem hkl];rfl)
  rw[kq] at this;exact this
abbrev jdg:=Bool×(Option Addr×Nat)×List Pc
def Uy(w:World)(n:Nat)(rs:List jI)(x:jdg):Res:=
 if x.1=true then {F:=λ_=>False,P:=λ_=>Rings w x.2.1.1 n rs,low:=λ_ _ _ h=>h.elim,B:=0,dep:=λ_ _ h _ _=>h} else JV (Bs.N ⟨w,[]⟩) 41 1 n (x.2.2.map Pc.val) x.2.1
def Yo(x:jdg):Res:=
 if x.1=true then {F:=λ_=>False,P:=λ_=>True,low:=λ_ _ _ h=>h.elim,B:=0,dep:=λ_ _ h _ _=>h} else KD x.2.2
theorem jgM{m:Nat}{c:Nat}(h0:Rings w A n rs)(h:At m env ⟨w,[]⟩ (Rs++[Uy w n rs (true,(A,c),[])]++[Yo (true,(A,c),[])]) K):At m env ⟨w,[]⟩ Rs K:=
 λa w1 hf hs=>h a w1 hf ((hs.add (r:=Uy w n rs (true,(A,c),[])) (Over.refl _) (show Rings w A n rs from h0) (λb hb=>(show False from hb).elim) ⟨jlN _,λ_ _=>jlN _⟩).add (r:=Yo (true,(A,c),[])) (Over.refl _) (show True from trivial) (λb hb=>(show False from hb).elim) ⟨jlN _,λ_ _=>jlN _⟩)
theorem jb4{w':World}{x:jdg}(hr:(Uy w n rs x).P w')(hp:(Yo x).P w')(hO:Over w w')(hx:x.1=false->x.2.2.map (·.xs)=rs)(hn:rs.length=n)(hsm:∀r∈rs,r.length<=1099511627776):Rings w' x.2.1.1 n rs:=by
 unfold Uy at hr;unfold Yo at hp;by_cases hf:x.1=true
 .rw[if_pos hf] at hr;exact(show Rings w x.2.1.1 n rs from hr).over hO
 .rw[if_neg hf] at hr hp;have e:=hx (by simpa using hf)
  have hll:x.2.2.length=n:=by have:=congrArg List.length e;rw[jlV] at this;omega
  have:=L0 hr hp hll (λd hd=>hsm d.xs (e▸jlR.2 ⟨d,hd,rfl⟩))
  rwa [e] at this
theorem jjv{w1:World}{k:Nat}{x:jdg}(hr:(Uy w n rs x).P w1)(hp:(Yo x).P w1)(hx:x.1=false->x.2.2.map (·.xs)=rs)(hn:rs.length=n)(hk:k<n):
  ∃bb oo,x.2.1.1=some ⟨bb,oo,none⟩/\∃Ak ck,∀w',(Uy w n rs x).P w'->(Yo x).P w'->Over w w'->w'.cell? ⟨bb,oo+k,none⟩=some (.slice Ak (rg rs k).length ck)/\Pts w' Ak (rg rs k).length (rg rs k):=by
 by_cases hf:x.1=true
 .have hR:Rings w x.2.1.1 n rs:=by unfold Uy at hr;rw[if_pos hf] at hr;exact hr
  obtain⟨bb,oo,Ak,ck,e,hbB,hcell,hpts,_⟩:=hR.at_ hk;exact⟨bb,oo,e,Ak,ck,λw' _ _ hO=>⟨((Jy hO).1 bb _ hbB).trans hcell,hpts.over hO⟩⟩
 .have e:=hx (by simpa using hf);have hll:x.2.2.length=n:=by have:=congrArg List.length e;rw[jlV] at this;omega
  have hkl:k<x.2.2.length:=by omega
  have hrow:w1.ownsRow (Bs.N ⟨w,[]⟩) 41 1 (.slice x.2.1.1 n x.2.1.2) n (x.2.2.map Pc.val):=by unfold Uy at hr;rw[if_neg hf] at hr;exact hr
  rcases hrow.2 with⟨_,e0⟩|⟨g,cap,cur,e0,hb,hg,_⟩
  .omega
  .injection e0 with e1 e2 e3
   have hrg:rg rs k=x.2.2[k].xs:=by rw[<-e,zQ hkl]
   refine⟨g,0,e1,x.2.2[k].A,x.2.2[k].c,λw' hr' hp' _=>?_⟩;have hrow':w'.ownsRow (Bs.N ⟨w,[]⟩) 41 1 (.slice x.2.1.1 n x.2.1.2) n (x.2.2.map Pc.val):=by unfold Uy at hr';rw[if_neg hf] at hr';exact hr'
   have hP':(KD x.2.2).P w':=by unfold Yo at hp';rw[if_neg hf] at hp';exact hp'
   rw[hrg];refine⟨?_,jaR hP' (jlY hkl)⟩;have:=hrow'.cells (g:=g) (by show Value.ownBlock (.slice x.2.1.1 n x.2.1.2)=some g;rw[e1];rfl) k x.2.2[k].val (by rw[List.getElem?_map,List.getElem?_eq_getElem hkl];rfl)
   rw[kq] at this;exact this
theorem jlb{w0:Bs}{b o k:Nat}{v:Value}(h:∀w',St w0 Rs w'->w'.cell? ⟨b,o+k,none⟩=some v):∀w',St w0 Rs w'->∀q u,[v][q]? =some u->w'.cell? ⟨b,o+k*1+q,none⟩=some u:=λw' hs q u hq=>by
 match q,hq with
 |0,hq=>simp at hq;subst hq;rw[jmL,jnC];exact h w' hs
theorem xw(A:Option Addr)(n c:Nat)(rs:List jI)(B:Option Addr)(m d:Nat)(hot:List Pn)(w:World)(h:Rings w A n rs)(hr:JG rs=true)(hh:Pts w B m hot)(hm:m<=1048576)(hmd:m<=d)(hok:∀p∈hot,WT p.1 p.2=true)(hasc:Asc hot)(hnd:hot.Nodup)(hG:bareG hot rs):
  Calls Tryz.prog 96 #[qU A n c,.slice B m d] w λe w'=>∃A' c',e=.returned (.tuple #[qU A' (SO hot rs).length c',.int .i64 (stN hot rs),.int .i64 (if FH hot rs=true then 0 else 5)])/\((A'=A/\c'=c/\SO hot rs=rs)\/OwnG w.heap.size w'.heap.size w' A' (SO hot rs).length (SO hot rs))/\Over w w':=by
 have hl:=h.1;subst hl;have hhl:=hh.1
 refine Jm (m:=63) (Tryz.func96) J J (lb J) ?_;refine S3 ?_;refine aX (λb1=>?_);refine N1 ?_;refine aL (λb2=>?_);refine N7 ?_;refine jgM (c:=c) h ?_;refine t9 ?_;refine S1 ?_;refine JW (X:=Nat×List jI×jdg) (λx=>StabI hot rs x.2.1 x.1/\(x.2.2.1=false->x.2.2.2.2.map (·.xs)=x.2.1)/\(x.2.2.1=true->x.2.1=rs/\x.2.2.2.1=(A,c))) (λx=>401-cnt x.2.1) (λx=>[(7,.int .i64 (x.1:Int))]) (kK [1,2,4,5,6]) (λx=>[.cel b1 25 [.slice x.2.2.2.1.1 x.2.1.length x.2.2.2.1.2],.cel b2 25 [.slice none 0 0],Uy w x.2.1.length x.2.1 x.2.2,Yo x.2.2]) (0,rs,true,(A,c),[]) (⟨StabI.start hr hG,(λe=>by cases e),λ_=>⟨rfl,rfl⟩⟩) ⟨rfl,sz⟩ (λ_ h=>h) ?_;intro⟨r,ss,fl,⟨cA,cc⟩,cl⟩ hx L hL1;refine v9 ?_;refine r9 ?_;obtain⟨hx1,hx2,hx3⟩:StabI hot rs ss r/\(fl=false->cl.map (·.xs)=ss)/\(fl=true->ss=rs/\(cA,cc)=(A,c)):=hx;have hr400:=hx1.r_le
 have hs40:=V0 hx1.reg;have hsm:∀q∈ss,q.length<=1099511627776:=(λq hq=>by obtain⟨i,hi,e⟩:=jmq hq;have:=Qj (kg hx1.reg hi);rw[wb hi] at e;rw[e] at this;omega)
 refine S5 ?_;refine aL (λb3=>?_);refine N1 ?_;refine QO (T:=41) (s:=1) ?_;refine t9 ?_;refine KY ?_;refine t9 ?_;refine S9 ?_;refine JW (X:=Nat×(Option Addr×Nat)×List Pc) (λy=>y.1<=ss.length/\y.2.2.map (·.xs)=(q8 hot ss).take y.1) (λy=>ss.length-y.1) (λy=>[(20,.int .i64 (y.1:Int))]) (kK [1,2,4,5,6,7,8,17,18,19]) (λy=>[.cel b1 25 [.slice cA ss.length cc],.cel b2 25 [.slice none 0 0],Uy w ss.length ss (fl,(cA,cc),cl),Yo (fl,(cA,cc),cl),.cel b3 25 [.slice y.2.1.1 y.1 y.2.1.2],JV (Bs.N ⟨w,[]⟩) 41 1 y.1 (y.2.2.map Pc.val) y.2.1,KD y.2.2]) (0,(none,0),[]) (⟨jlN _,J⟩) ⟨J,sz⟩ (λ_ h=>h) ?_;intro⟨k,⟨rA,rc⟩,l⟩ hy L hL2;refine v9 ?_;refine r9 ?_;obtain⟨hk,hmp⟩:k<=ss.length/\l.map (·.xs)=(q8 hot ss).take k:=hy;have hlk:l.length=k:=(by have:=congrArg List.length hmp;rw[jlV,jl3,Vo] at this;omega)
 refine S5 ?_;refine cZ (λc1=>?_) (λc1=>?_)
 .have hlt:k<ss.length:=Om;refine kW (λw1 hs=>jjv (hs.all 2 _ J).1 (hs.all 3 _ J).1 hx2 J hlt) ?_;rintro⟨eb,eo,eA0,Ak,ck,hread⟩;have eA1:cA=some ⟨eb,eo,none⟩:=eA0
  subst eA1;have hpos:=Qj (kg hx1.reg hlt)
  obtain⟨ho1,ho2,ho3⟩:=hx1.bare.on hlt;have hsl:=Xb (hot:=hot) (xs:=rg ss k) Om Om
  obtain⟨E,hEe⟩:∃E,E=Jh (rg ss k):=⟨_,rfl⟩;have hEl:E.length<=400:=(by rw[hEe];omega)
  refine S7 ?_;refine a9 (jj J J Jz J (jlb (λw' hs=>(hread w' (hs.all 2 _ J).1 (hs.all 3 _ J).1 hs.fin).1))) ?_;refine S1 ?_;refine aL (λb4=>?_);refine N6 ?_;refine QO (T:=36) (s:=2) ?_;refine N6 ?_;refine J4 Ka (v:=λx:Option Addr×Nat=>.slice x.1 (Jh (rg ss k)).length x.2) (r:=λx=>JV 0 72 4 _ _ x) (H:=λ_=>True) J J J (lb J) (λw1 hs=>q6 (kw Ak _ ck (rg ss k) w1 (hread w1 (hs.all 2 _ J).1 (hs.all 3 _ J).1 hs.fin).2 Om)) ?_;rintro⟨eA,ec⟩-;refine N3 ?_;rw[<-hEe];refine S1 ?_;refine JW (X:=Nat×Option Addr×Nat) (λz=>z.1<=E.length) (λz=>E.length-z.1) (λz=>[(11,.slice z.2.1 (yH hot E z.1).length z.2.2),(27,.int .i64 (z.1:Int))]) (kK [1,2,4,5,6,7,8,17,18,19,20,21,22,23,10,24,25,26]) (λz=>[.cel b1 25 [.slice (some ⟨eb,eo,none⟩) ss.length cc],.cel b2 25 [.slice none 0 0],Uy w ss.length ss (fl,(some ⟨eb,eo,none⟩,cc),cl),Yo (fl,(some ⟨eb,eo,none⟩,cc),cl),.cel b3 25 [.slice rA k rc],JV (Bs.N ⟨w,[]⟩) 41 1 k (l.map Pc.val) (rA,rc),KD l,.cel b4 41 [.slice Ak (rg ss k).length ck],JV (Bs.N ⟨w,[]⟩) 36 2 (yH hot E z.1).length ((yH hot E z.1).flatMap Jt) z.2,JV 0 72 4 E.length (E.flatMap jW) (eA,ec)]) (0,none,0) (jlN _) ⟨J,sz⟩ (λ_ h=>h) ?_;intro⟨j,qA,qc⟩ hz L hL3;refine v9 ?_;refine r9 ?_;have hj:j<=E.length:=hz
  have hsn:=HT (hot:=hot) (E:=E) (m:=1048576) Om j hj;refine S5 ?_;refine cZ (λc2=>?_) (λc2=>?_)
  .have hjl:j<E.length:=Om;obtain⟨g1',g2',g3'⟩:=(hEe▸ho1:onHot hot E).at_ hjl;obtain⟨mid,hmid⟩:=xX g1' g2' g3';have hpl:0<(qJ (lA (lg E j)) (lB (lg E j)) hot).length:=(by rw[hmid];simp)
   have hpm:(qJ (lA (lg E j)) (lB (lg E j)) hot).length<=1048576:=(by rw[Wd];have:=HV (lA (lg E j)) (lB (lg E j)) hot;omega);refine kW (λw hs=>V4 (k:=9) J hs Om) ?_;rintro⟨eg,rfl⟩;refine S7 ?_;refine a9 (jj J J qF J (Ya (b:=eg) (o:=0) (vL (k:=9) (x:=(some ⟨eg,0,none⟩,ec)) (ls:=E) J J) hjl)) ?_;refine S1 ?_;refine aL (λb5=>?_);refine N1 ?_;refine j9 10 qp.szx ?_;refine N4 ?_;refine a9 (jj J J jk J (y8 (k:=10) J J J)) ?_;refine S1 ?_;refine a9 (jj J J jk J (y8 (k:=10) J J J)) ?_;refine S2 ?_;refine J4 LI (v:=λx:Option Addr×Nat=>.slice x.1 (qJ (lA (lg E j)) (lB (lg E j)) hot).length x.2) (r:=λx=>JV 0 36 2 (qJ (lA (lg E j)) (lB (lg E j)) hot).length ((qJ (lA (lg E j)) (lB (lg E j)) hot).flatMap Jt) x) (H:=λ_=>True) J J J (lb J) (λw1 hs=>q6 (SI (lA (lg E j)) (lB (lg E j)) B m d hot w1 (hh.over hs.fin) (hok _ g2') (hok _ g3') hok hasc hmd hm)) ?_;rintro⟨pA,pc⟩-;refine N2 ?_;refine kW (λw hs=>V4 (k:=11) J hs hpl) ?_;rintro⟨pg,rfl⟩;refine kW (λw hs=>UD (hs.all 11 _ J).1) ?_;intro hcap;have hst:yH hot E (j+1)=yH hot E j++(qJ (lA (lg E j)) (lB (lg E j)) hot).take ((qJ (lA (lg E j)) (lB (lg E j)) hot).length-1):=(by rw[L8 hjl];unfold QA;rw[List.dropLast_eq_take])
   have hstl:(yH hot E (j+1)).length=(yH hot E j).length+((qJ (lA (lg E j)) (lB (lg E j)) hot).length-1):=(by rw[hst,jlJ,jl3];omega);refine S5 ?_;refine a9 ((JP J J J Om Om).as (congrArg _ (show(((qJ (lA (lg E j)) (lB (lg E j)) hot).length:Int)-1)=(((qJ (lA (lg E j)) (lB (lg E j)) hot).length-1:Nat):Int) by omega))) ?_;refine a9 ((KQ J J J jw Om).as (ui _ _ _ _ _)) ?_;refine S1 ?_;refine JQ (k:=8) J jw jG Dc J Dc J J J (λw' hs=>SK (uZ (hs.all 11 _ J).1 J) Om) (WL _) (by unfold maxLen;omega) Om (jlL _) (λr1=>?_);refine N8 ?_;exact Jn hL3 ((j+1,r1)) ((show j+1<=E.length by omega)) (by simp only;omega) ⟨(by rw[hstl];rfl),vi Om,sz⟩ (λ_ h=>(h.picks [0,1,2,3,4,5,6,7,8,9] Dc).upto ⟨J,J,J,J,J,J,J,J,by rw[hstl,hst,jlW],sz⟩)
  .have hjE:j=E.length:=Om;subst hjE;rw[show yH hot E E.length=Ko hot (rg ss k) by rw[Dz,hEe]];refine S9 ?_;refine a9 (JD J J (Qn J)) ?_;refine S1 ?_;refine j5 J J (qe J) J (lb J) (λb6=>?_);refine N1 ?_;refine JQ (k:=5) J jC Jl Dc J Dc J J J (λw' hs=>qL hs (k:=10) J J) (by simp[Value.oneCell']) (by unfold maxLen;omega) Om (jlL _) (λr2=>?_);refine N4 ?_;refine YC 8 J J (λclo chi=>?_);refine t9 ?_;refine Ke 6 8 J J Dc J ?_;refine t9 ?_;refine S6 ?_;exact Jn hL2 ((k+1,r2,l++[⟨Ko hot (rg ss k),qA,qc,clo,chi⟩])) (⟨show k+1<=ss.length by omega,by rw[jma,hmp,WQ (by rw[Vo];omega),Ds hlt];rfl⟩) (by simp only;omega) ⟨vi Om,sz⟩ (λ_ h=>(h.picks [0,1,2,3,4,5,6] Dc).upto ⟨J,J,J,J,J,by rw[jma];rfl,(ve _ _).symm,trivial⟩)
 .have hkn:k=ss.length:=Om;subst hkn;have hall:l.map (·.xs)=q8 hot ss:=(by rw[hmp,jme (by rw[Vo];omega)])
  have hsml:∀e∈l,e.xs.length<=1099511627776:=(λe he=>by obtain⟨q,hq,e2⟩:=jlR.1 (hall▸jlR.2 ⟨e,he,rfl⟩:e.xs∈q8 hot ss);rw[<-e2];obtain⟨i,hi,e3⟩:=jmq hq;have:=Qj (kg hx1.reg hi);rw[wb hi] at e3;rw[e3] at this;have:=Xb (hot:=hot) (xs:=q) Om Om;omega);refine S10 ?_;refine a9 (jT ym J J (λw1 hs=>ZJ rA cA ss.length ss.length rc cc (q8 hot ss) ss w1 (hall▸L0 (hs.all 5 _ J).1 (hs.all 6 _ J).1 hlk hsml) (jb4 (hs.all 2 _ J).1 (hs.all 3 _ J).1 hs.fin hx2 J hsm) Om)) ?_;refine S1 ?_;refine cZ (λc3=>?_) (λc3=>?_)
  .have hsame:q8 hot ss=ss:=(by simpa using c3);refine S15 ?_;refine Ox J (qj (k:=1) J jD J J) (.tmp J) (.tmp J) ?_;intro w' hs;obtain⟨e1,e2,e3⟩:=zY (hx1.fin hsame);refine⟨cA,cc,by rw[e1,e2,e3];rfl,?_,hs.fin⟩;rw[e1];cases fl
   .exact .inr (Y0 hs (kr:=2) (kp:=3) rfl rfl Dc rfl (by have:=congrArg List.length (hx2 rfl);rw[jlV] at this;omega) (hx2 rfl) (λj hj=>by have:=hsm _ (jlY hj);rw[wb hj] at this;omega))
   .exact(by obtain⟨q1,q2⟩:=hx3 rfl;injection q2 with q2 q3;exact .inl ⟨q2,q3,q1⟩)
  .refine S6 ?_;refine a9 (jT K5 J J (λw1 hs=>We rA ss.length rc (q8 hot ss) w1 (hall▸L0 (hs.all 5 _ J).1 (hs.all 6 _ J).1 hlk hsml) Om)) ?_;refine S2 ?_;refine cZ (λc4=>?_) (λc4=>?_)
   .refine S2 ?_;refine a9 (JD J J (qo)) ?_;refine S11 ?_;refine Ox J (qj (k:=1) J jD J J) (.tmp J) (.tmp J) ?_;intro w' hs;obtain⟨e1,e2,e3⟩:=SP (hx1.full c4);exact⟨none,0,by rw[e1,e2,e3];rfl,by rw[e1];exact .inr (OwnG.nil none),hs.fin⟩
   .obtain⟨k1,k2⟩:=hx1.step hnd c4 (by simpa using c3);have hc4:=Sx k1.reg k1.bare
    refine S14 ?_;exact Jn hL1 ((r+1,q8 hot ss,false,(rA,rc),l)) (⟨k1,(λ_=>hall),(λe=>by cases e)⟩) (by simp only;omega) ⟨vi Om,sz⟩ (λ_ h=>(h.picks [0,1,5,6] Dc).upto ⟨by rw[Vo],rfl,by rw[Vo];rfl,sz⟩)
end Go.Proofs.YtjbahemkhphndaaGreat
namespace Go.Proofs.YtjbahemkhphndaaGreat
open Go Go.Shelf
def zX:Go.Shelf.Ren:=⟨λ|6=>108 |15=>130 |14=>129 |28=>156 |29=>157 |20=>148 |21=>149 |22=>150 |23=>151 |24=>152 |25=>153 |26=>154 |27=>155 |46=>164 |47=>165 |48=>166 |49=>167 |50=>168 |57=>180 |n=>n,λ|22=>39 |24=>36 |25=>148 |3=>3 |39=>98 |0=>0 |53=>202 |55=>63 |4=>4 |46=>196 |45=>195 |50=>171 |5=>5 |9=>9 |66=>210 |70=>214 |76=>224 |77=>225 |n=>n,λ|n=>n⟩
theorem jf5:Go.Proofs.SlLaysF0.n6 Tryz.prog zX:={
 mixed:=by kernel_rfl
 f6:=⟨Tryz.f108.name,by decide,Tryz.func108.trans (congrArg some Kr)⟩
 f14:=⟨Tryz.f129.name,by decide,Tryz.func129.trans (congrArg some Kr)⟩
 f15:=Tryz.func130.trans (congrArg some Kr)
 f20:=⟨Tryz.f148.name,by decide,Tryz.func148.trans (congrArg some Kr)⟩
 f21:=⟨Tryz.f149.name,by decide,Tryz.func149.trans (congrArg some Kr)⟩
 f22:=⟨Tryz.f150.name,by decide,Tryz.func150.trans (congrArg some Kr)⟩
 f23:=⟨Tryz.f151.name,by decide,Tryz.func151.trans (congrArg some Kr)⟩
 f24:=⟨Tryz.f152.name,by decide,Tryz.func152.trans (congrArg some Kr)⟩
 f25:=⟨Tryz.f153.name,by decide,Tryz.func153.trans (congrArg some Kr)⟩
 f26:=⟨Tryz.f154.name,by decide,Tryz.func154.trans (congrArg some Kr)⟩
 f27:=⟨Tryz.f155.name,by decide,Tryz.func155.trans (congrArg some Kr)⟩
 f28:=Tryz.func156.trans (congrArg some Kr)
 f29:=Tryz.func157.trans (congrArg some Kr)
 f46:=⟨Tryz.f164.name,by decide,Tryz.func164.trans (congrArg some Kr)⟩
 f47:=Tryz.func165.trans (congrArg some Kr)
 f48:=Tryz.func166.trans (congrArg some Kr)
 f49:=⟨Tryz.f167.name,by decide,Tryz.func167.trans (congrArg some Kr)⟩
 f50:=⟨Tryz.f168.name,by decide,Tryz.func168.trans (congrArg some Kr)⟩
 f57:=⟨Tryz.f180.name,by decide,Tryz.func180.trans (congrArg some Kr)⟩
 t0:=Tryz.underlying0
 a0:=Tryz.isAgg0
 z0:=Tryz.sizeOf0
 v0:=Tryz.zeroValue0
 t3:=Tryz.underlying3
 a3:=Tryz.isAgg3
 z3:=Tryz.sizeOf3
 v3:=Tryz.zeroValue3
 t4:=Tryz.underlying4
 a4:=Tryz.isAgg4
 z4:=Tryz.sizeOf4
 v4:=Tryz.zeroValue4
 t5:=Tryz.underlying5
 a5:=Tryz.isAgg5
 z5:=Tryz.sizeOf5
 v5:=Tryz.zeroValue5
 t9:=Tryz.underlying9
 a9:=Tryz.isAgg9
 z9:=Tryz.sizeOf9
 v9:=Tryz.zeroValue9
 t22:=Tryz.underlying39
 a22:=Tryz.isAgg39
 z22:=Tryz.sizeOf39
 v22:=Tryz.zeroValue39
 t25:=Tryz.underlying148
 a25:=Tryz.isAgg148
 z25:=Tryz.sizeOf148
 v25:=Tryz.zeroValue148
 t39:=Tryz.underlying98
 a39:=Tryz.isAgg98
 z39:=Tryz.sizeOf98
 v39:=Tryz.zeroValue98
 t45:=Tryz.underlying195
 a45:=Tryz.isAgg195
 z45:=Tryz.sizeOf195
 v45:=Tryz.zeroValue195
 t46:=Tryz.underlying196
 a46:=Tryz.isAgg196
 z46:=Tryz.sizeOf196
 v46:=Tryz.zeroValue196
 t50:=Tryz.underlying171
 a50:=Tryz.isAgg171
 z50:=Tryz.sizeOf171
 v50:=Tryz.zeroValue171
 t53:=Tryz.underlying202
 a53:=Tryz.isAgg202
 z53:=Tryz.sizeOf202
 v53:=Tryz.zeroValue202
 t55:=Tryz.underlying63
 a55:=Tryz.isAgg63
 z55:=Tryz.sizeOf63
 v55:=Tryz.zeroValue63
 t66:=Tryz.underlying210
 a66:=Tryz.isAgg210
 z66:=Tryz.sizeOf210
 v66:=Tryz.zeroValue210
 t70:=Tryz.underlying214
 a70:=Tryz.isAgg214
 z70:=Tryz.sizeOf214
 v70:=Tryz.zeroValue214
 t76:=Tryz.underlying224
 a76:=Tryz.isAgg224
 z76:=Tryz.sizeOf224
 v76:=Tryz.zeroValue224
 t77:=Tryz.underlying225
 a77:=Tryz.isAgg225
 z77:=Tryz.sizeOf225
 v77:=Tryz.zeroValue225}
end Go.Proofs.YtjbahemkhphndaaGreat
