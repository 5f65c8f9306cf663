import Derived.Test.YtkagkgjjfdkoaaaGreatMOrd
import Derived.Test.YtkagkgjjfdkoaaaGreatMEnds
import Derived.Test.YtkagkgjjfdkoaaaGreatMSortLg
import Derived.Test.YtkagkgjjfdkoaaaGreatMSnapB
import Derived.Shelf.SlSortCmp.WholeK
import Derived.Test.YtkagkgjjfdkoaaaGreatMHot
set_option linter.unusedVariables false
set_option linter.unusedSimpArgs false
namespace Go.Proofs.YtkagkgjjfdkoaaaGreat
open Go Go.RowKit
set_option maxRecDepth 100000
set_option maxHeartbeats 4000000
theorem jbF {xs ys:List Pn} (hl:xs.length=ys.length) (h:∀j,j<xs.length→pt xs j=pt ys j) :xs=ys:=by
 apply jfR hl
 intro i h1 h2
 rw [Kl h1,Kl h2]
 exact h i h1
theorem NC (A B:Option Addr) (n m c d:Nat) (xs ys:List Pn) (w:World) (h:Pts w A n xs) (h':Pts w B m ys) (hn: (n:Int)≤9223372036854775807) :
  Calls Tryz.prog 55 #[.slice A n c, .slice B m d] w fun e w'=>e= .returned (.bool (decide (xs=ys)))∧Over w w':=by
 have hl:=h.1
 have hl':=h'.1
 refine jU (m:=26) (Tryz.func55) J J (lb J) ?_;refine S13 ?_;refine cZ (fun c1=> ?_) (fun c1=> ?_)
 ·refine S6 ?_;refine jL J (.tmp J) ?_
  intro w' hs
  exact⟨QJ (decide_eq_false (fun e=>by subst e;omega)).symm,hs.fin⟩
 ·have hnm:n=m:= (by omega)
  subst hnm
  refine S10 ?_;refine qi (X:=Nat) (fun k=>k≤n∧∀j,j<k→pt xs j=pt ys j) (fun k=>n- k) (fun k=> [(13, .int .i64 (k:Int))]) (kK [0,1,4,12]) 0 (⟨jeE _,fun j hj=>absurd hj (by omega)⟩) ⟨J,sz⟩ ?_
  intro k hk L hL1
  refine v9 ?_
  obtain ⟨hk1,hk2⟩ :=hk
  refine S5 ?_;refine cZ (fun c2=> ?_) (fun c2=> ?_)
  ·have hlt:k<n:= (by omega)
   obtain ⟨eb,eo,rfl,_⟩ :=h.2 (by omega)
   obtain ⟨fb,fo,rfl,_⟩ :=h'.2 (by omega)
   refine S11 ?_;refine Jw 9 ?_;refine dK 0 ?_;refine dK 1 ?_;refine dK 2 ?_;refine dZ 3 J (jj J J jl J (Vm (b:=eb) (o:=eo) h hlt)) ?_;refine dK 4 ?_;refine dK 5 ?_;refine dK 6 ?_;refine dZ 7 J (jj J J jl J (Vm (b:=fb) (o:=fo) h' hlt)) ?_;refine dK 8 ?_;refine Jj (by kernel_rfl) ?_;refine S1 ?_;refine cZ (fun c3=> ?_) (fun c3=> ?_)
   ·refine S10 ?_;refine jL J (.tmp J) ?_
    intro w' hs
    exact⟨QJ (decide_eq_false (fun e=>by subst e;simp at c3)).symm,hs.fin⟩
   ·have he:pt xs k=pt ys k:= (by simp at c3;exact Prod.ext c3.1 c3.2)
    refine S7 ?_
    exact J8 hL1 (k+1) (⟨by omega,fun j hj=>by by_cases hjk:j=k;rw [hjk];exact he;exact hk2 j (by omega)⟩) (by omega) ⟨vi (by omega),sz⟩ (u9 rfl)
  ·refine S10 ?_;refine jL J (.tmp J) ?_
   intro w' hs
   exact⟨QJ (decide_eq_true (jbF (by omega) fun j hj=>hk2 j (by omega))).symm,hs.fin⟩
theorem DZ (A B:Option Addr) (n m c d:Nat) (xs ys:List Pn) (w:World) (h:Pts w A n xs) (h':Pts w B m ys) (hn: (n:Int)≤9223372036854775807) :
  Calls Tryz.prog 54 #[YX A n c,YX B m d] w fun e w'=>e= .returned (.bool (decide (xs=ys)))∧Over w w':=by
 refine jU (m:=10) (Tryz.func54) J J (lb J) ?_;refine S3 ?_;refine aX (fun b1=> ?_);refine N1 ?_;refine aX (fun b2=> ?_);refine N8 ?_;refine a9 (jH ww J J (fun w1 hs=>NC A B n m c d xs ys w1 (h.over hs.fin) (h'.over hs.fin) hn)) ?_;refine S3 ?_;refine jL J (.tmp J) ?_
 intro w' hs
 exact⟨rfl,hs.fin⟩
theorem M5 (A B:Option Addr) (n m c d:Nat) (rs ss:List jS) (w:World) (h:Rings w A n rs) (h':Rings w B m ss) (hn: (n:Int)≤9223372036854775807) :
  Calls Tryz.prog 53 #[.slice A n c, .slice B m d, .func (.func 54) #[] #[]] w fun e w'=>e= .returned (.bool (decide (rs=ss)))∧Over w w':=by
 have hl:=h.1
 have hl':=h'.1
 refine jU (m:=32) (Tryz.func53) J J (lb J) ?_;refine S13 ?_;refine cZ (fun c1=> ?_) (fun c1=> ?_)
 ·refine S6 ?_;refine jL J (.tmp J) ?_
  intro w' hs
  exact⟨QJ (decide_eq_false (fun e=>by subst e;omega)).symm,hs.fin⟩
 ·have hnm:n=m:= (by omega)
  subst hnm
  refine S10 ?_;refine qi (X:=Nat) (fun k=>k≤n∧∀j,j<k→rg rs j=rg ss j) (fun k=>n- k) (fun k=> [(17, .int .i64 (k:Int))]) (kK [1,2,6,15,16]) 0 (⟨jeE _,fun j hj=>absurd hj (by omega)⟩) ⟨J,sz⟩ ?_
  intro k hk L hL1
  refine v9 ?_
  obtain ⟨hk1,hk2⟩ :=hk
  refine S5 ?_;refine cZ (fun c2=> ?_) (fun c2=> ?_)
  ·have hlt:k<n:= (by omega)
   obtain ⟨eb,eo,Ak,ck,rfl,hbB,hcell,hpts,hmax⟩ :=h.at_ hlt
   obtain ⟨fb,fo,Bk,dk,rfl,hbB2,hcell2,hpts2,hmax2⟩ :=h'.at_ hlt
   refine S8 ?_;refine a9 (jj J J JH J (ZM hcell hbB)) ?_;refine S1 ?_;refine aL (fun b1=> ?_);refine N9 ?_;refine a9 (jj J J JH J (ZM hcell2 hbB2)) ?_;refine S1 ?_;refine aL (fun b2=> ?_);refine N8 ?_;refine a9 (vM YM J J J (fun w1 hs=>DZ Ak Bk _ _ ck dk (rg rs k) (rg ss k) w1 (hpts.over hs.fin) (hpts2.over hs.fin) hmax)) ?_;refine S2 ?_;refine cZ (fun c3=> ?_) (fun c3=> ?_)
   ·refine S10 ?_;refine jL J (.tmp J) ?_
    intro w' hs
    exact⟨QJ (decide_eq_false (fun e=>by subst e;simp at c3)).symm,hs.fin⟩
   ·have he:rg rs k=rg ss k:= (by simpa using c3)
    refine S7 ?_
    exact J8 hL1 (k+1) (⟨by omega,fun j hj=>by by_cases hjk:j=k;rw [hjk];exact he;exact hk2 j (by omega)⟩) (by omega) ⟨vi (by omega),sz⟩ (u9 rfl)
  ·refine S10 ?_;refine jL J (.tmp J) ?_
   intro w' hs
   exact⟨QJ (decide_eq_true (SA (by omega) fun j hj=>hk2 j (by omega))).symm,hs.fin⟩
theorem uC (A B:Option Addr) (n m c d:Nat) (rs ss:List jS) (w:World) (h:Rings w A n rs) (h':Rings w B m ss) (hn: (n:Int)≤9223372036854775807) :
  Calls Tryz.prog 32 #[Ju A n c,Ju B m d] w fun e w'=>e= .returned (.bool (decide (rs=ss)))∧Over w w':=by
 refine jU (m:=10) (Tryz.func32) J J (lb J) ?_;refine S3 ?_;refine aX (fun b1=> ?_);refine N1 ?_;refine aX (fun b2=> ?_);refine N8 ?_;refine a9 (jH QU J J (fun w1 hs=>M5 A B n m c d rs ss w1 (h.over hs.fin) (h'.over hs.fin) hn)) ?_;refine S3 ?_;refine jL J (.tmp J) ?_
 intro w' hs
 exact⟨rfl,hs.fin⟩
theorem TT {w:World} {l:List Pc} (h: (ve l).P w) {e:Pc} (he:e∈l) :Pts w e.A e.xs.length e.xs:=by
 have h1:= (h.1 e.res (je7.2 ⟨e,he,rfl⟩)).1
 exact(E8 h1).pts
theorem Gd {w:World} {B T n:Nat} {l:List Pc} {x:Option Addr×Nat} (hr: (JP B T 1 n (l.map Pc.val) x).P w) (hP: (ve l).P w) (hl:l.length=n) (hs:∀e∈l,e.xs.length≤1099511627776) :Rings w x.1 n (l.map (·.xs)) :=by
 have hrow:w.ownsRow B T 1 (.slice x.1 n x.2) n (l.map Pc.val) :=hr
 refine⟨by rw [jeX,hl],fun h0=> ?_⟩
 rcases hrow.2 with⟨_,e⟩ |⟨g,cap,cur,e,hb,hg,_⟩
 ·omega
 ·injection e with e1 e2 e3
  refine⟨g,0,e1,JQ hg,fun k hk=> ?_⟩
  have hkl:k<l.length:=by omega
  have hm:=jeW hkl
  rw [Uv hkl]
  refine⟨l[k].A,l[k].c,?_,TT hP hm,by have:=hs _ hm;omega⟩
  have:=hrow.cells (g:=g) (by show Value.ownBlock (.slice x.1 n x.2) =some g;rw [e1];rfl) k l[k].val (by rw [List.getElem?_map,List.getElem?_eq_getElem hkl];rfl)
  rw [Qz] at this
  exact this
abbrev Cg:=Bool×(Option Addr×Nat)×List Pc
def W4 (w:World) (n:Nat) (rs:List jS) (x:Cg) :Res:=
 if x.1=true then {F:=fun _=>False,P:=fun _=>Rings w x.2.1.1 n rs,low:=fun _ _ _ h=>h.elim,B:=0,dep:=fun _ _ h _ _=>h} else JP (Bs.N ⟨w,[]⟩) 71 1 n (x.2.2.map Pc.val) x.2.1
def Uq (x:Cg) :Res:=
 if x.1=true then {F:=fun _=>False,P:=fun _=>True,low:=fun _ _ _ h=>h.elim,B:=0,dep:=fun _ _ h _ _=>h} else ve x.2.2
theorem ja3 {w:World} {m:Nat} {env:List (Nat×Value)} {Rs:List Res} {K:Act→World→Prop} {A:Option Addr} {n c:Nat} {rs:List jS} (h0:Rings w A n rs) (h:At m env ⟨w,[]⟩ (Rs++ [W4 w n rs (true,(A,c),[])] ++ [Uq (true,(A,c),[])]) K) :At m env ⟨w,[]⟩ Rs K:=
 fun a w1 hf hs=>h a w1 hf ((hs.add (r:=W4 w n rs (true,(A,c),[])) (Over.refl _) (show Rings w A n rs from h0) (fun b hb=> (show False from hb).elim) ⟨jeE _,fun _ _=>jeE _⟩).add (r:=Uq (true,(A,c),[])) (Over.refl _) (show True from trivial) (fun b hb=> (show False from hb).elim) ⟨jeE _,fun _ _=>jeE _⟩)
theorem NX {w w':World} {n:Nat} {rs:List jS} {x:Cg} (hr: (W4 w n rs x).P w') (hp: (Uq x).P w') (hO:Over w w') (hx:x.1=false→x.2.2.map (·.xs) =rs) (hn:rs.length=n) (hsm:∀r∈rs,r.length≤1099511627776) :Rings w' x.2.1.1 n rs:=by
 unfold W4 at hr
 unfold Uq at hp
 by_cases hf:x.1=true
 ·rw [if_pos hf] at hr
  exact(show Rings w x.2.1.1 n rs from hr).over hO
 ·rw [if_neg hf] at hr hp
  have e:=hx (by simpa using hf)
  have hll:x.2.2.length=n:=by have:=congrArg List.length e;rw [jeX] at this;omega
  have:=Gd hr hp hll (fun d hd=>hsm d.xs (e▸je7.2 ⟨d,hd,rfl⟩))
  rwa [e] at this
theorem jc4 {w w1:World} {n k:Nat} {rs:List jS} {x:Cg} (hr: (W4 w n rs x).P w1) (hp: (Uq x).P w1) (hx:x.1=false→x.2.2.map (·.xs) =rs) (hn:rs.length=n) (hk:k<n) :
  ∃bb oo,x.2.1.1=some ⟨bb,oo,none⟩∧∃Ak ck,∀w',(W4 w n rs x).P w'→(Uq x).P w'→Over w w'→w'.cell? ⟨bb,oo+k,none⟩ =some (.slice Ak (rg rs k).length ck)∧Pts w' Ak (rg rs k).length (rg rs k) :=by
 by_cases hf:x.1=true
 ·have hR:Rings w x.2.1.1 n rs:=by unfold W4 at hr;rw [if_pos hf] at hr;exact hr
  obtain ⟨bb,oo,Ak,ck,e,hbB,hcell,hpts,_⟩ :=hR.at_ hk
  exact⟨bb,oo,e,Ak,ck,fun w' _ _ hO=>⟨((Ji hO).1 bb _ hbB).trans hcell,hpts.over hO⟩⟩
 ·have e:=hx (by simpa using hf)
  have hll:x.2.2.length=n:=by have:=congrArg List.length e;rw [jeX] at this;omega
  have hkl:k<x.2.2.length:=by omega
  have hrow:w1.ownsRow (Bs.N ⟨w,[]⟩) 71 1 (.slice x.2.1.1 n x.2.1.2) n (x.2.2.map Pc.val) :=by unfold W4 at hr;rw [if_neg hf] at hr;exact hr
  rcases hrow.2 with⟨_,e0⟩ |⟨g,cap,cur,e0,hb,hg,_⟩
  ·omega
  ·injection e0 with e1 e2 e3
   have hrg:rg rs k=x.2.2[k].xs:=by rw [←e,Uv hkl]
   refine⟨g,0,e1,x.2.2[k].A,x.2.2[k].c,fun w' hr' hp' _=> ?_⟩
   have hrow':w'.ownsRow (Bs.N ⟨w,[]⟩) 71 1 (.slice x.2.1.1 n x.2.1.2) n (x.2.2.map Pc.val) :=by unfold W4 at hr';rw [if_neg hf] at hr';exact hr'
   have hP': (ve x.2.2).P w':=by unfold Uq at hp';rw [if_neg hf] at hp';exact hp'
   rw [hrg]
   refine⟨?_,TT hP' (jeW hkl)⟩
   have:=hrow'.cells (g:=g) (by show Value.ownBlock (.slice x.2.1.1 n x.2.1.2) =some g;rw [e1];rfl) k x.2.2[k].val (by rw [List.getElem?_map,List.getElem?_eq_getElem hkl];rfl)
   rw [Qz] at this
   exact this
theorem jd2 {w0:Bs} {Rs:List Res} {b o k:Nat} {v:Value} (h:∀w',St w0 Rs w'→w'.cell? ⟨b,o+k,none⟩ =some v) :∀w',St w0 Rs w'→∀q u,[v][q]? =some u→w'.cell? ⟨b,o+k*1+q,none⟩ =some u:=fun w' hs q u hq=>by
 match q,hq with
 | 0,hq=>simp at hq;subst hq;rw [jfz,jgg];exact h w' hs
theorem Y2 (A:Option Addr) (n c:Nat) (rs:List jS) (B:Option Addr) (m d:Nat) (hot:List Pn) (w:World) (h:Rings w A n rs) (hr:JO rs=true)
  (hh:Pts w B m hot) (hm:m≤1048576) (hmd:m≤d) (hok:∀p∈hot,wU p.1 p.2=true) (hasc:Asc hot) (hnd:hot.Nodup) (hG:bareG hot rs) :
  Calls Tryz.prog 44 #[Ju A n c, .slice B m d] w fun e w'=>∃A' c',e= .returned (.tuple #[Ju A' (Rp hot rs).length c', .int .i64 (Nq hot rs), .int .i64 (if D8 hot rs=true then 0 else 5)])∧((A'=A∧c'=c∧Rp hot rs=rs)∨OwnG w.heap.size w'.heap.size w' A' (Rp hot rs).length (Rp hot rs))∧Over w w':=by
 have hl:=h.1
 subst hl
 have hhl:=hh.1
 refine jU (m:=63) (Tryz.func44) J J (lb J) ?_;refine S3 ?_;refine aX (fun b1=> ?_);refine N1 ?_;refine aL (fun b2=> ?_);refine N7 ?_;refine ja3 (c:=c) h ?_;refine ji (by simp only [jeL,jeG,jeM,jeO,jeJ,jeI,Value.cells,jeK];rfl) ?_;refine S1 ?_;refine JI (X:=Nat×List jS×Cg) (fun x=>StabI hot rs x.2.1 x.1∧(x.2.2.1=false→x.2.2.2.2.map (·.xs) =x.2.1)∧(x.2.2.1=true→x.2.1=rs∧x.2.2.2.1= (A,c))) (fun x=>401- cnt x.2.1) (fun x=> [(7, .int .i64 (x.1:Int))]) (kK [1,2,4,5,6]) (fun x=> [.cel b1 29 [.slice x.2.2.2.1.1 x.2.1.length x.2.2.2.1.2], .cel b2 29 [.slice none 0 0],W4 w x.2.1.length x.2.1 x.2.2,Uq x.2.2]) (0,rs,true,(A,c),[]) (⟨StabI.start hr hG,(fun e=>by cases e),fun _=>⟨rfl,rfl⟩⟩) ⟨rfl,sz⟩ (fun _ h=>h) ?_
 intro⟨r,ss,fl,⟨cA,cc⟩,cl⟩ hx L hL1
 refine v9 ?_;refine ji (by first | (dsimp only;done) | (dsimp only;rfl) | rfl) ?_
 obtain ⟨hx1,hx2,hx3⟩ :StabI hot rs ss r∧(fl=false→cl.map (·.xs) =ss)∧(fl=true→ss=rs∧(cA,cc) = (A,c)) :=hx
 have hr400:=hx1.r_le
 have hs40:=wb hx1.reg
 have hsm:∀q∈ss,q.length≤1099511627776:= (fun q hq=>by obtain ⟨i,hi,e⟩ :=jfm hq;have:=Qa (kU hx1.reg hi);rw [wl hi] at e;rw [e] at this;omega)
 refine S5 ?_;refine aL (fun b3=> ?_);refine N1 ?_;refine kz (T:=71) (s:=1) ?_;refine ji (by simp only [jeL,jeG,jeM,jeO,jeJ,jeI,Value.cells,jeK];rfl) ?_;refine vF ?_;refine ji (by simp only [jeL,jeG,jeM,jeO,jeJ,jeI,Value.cells,jeK];rfl) ?_;refine S9 ?_;refine JI (X:=Nat×(Option Addr×Nat)×List Pc) (fun y=>y.1≤ss.length∧y.2.2.map (·.xs) = (qT hot ss).take y.1) (fun y=>ss.length- y.1) (fun y=> [(20, .int .i64 (y.1:Int))]) (kK [1,2,4,5,6,7,8,17,18,19]) (fun y=> [.cel b1 29 [.slice cA ss.length cc], .cel b2 29 [.slice none 0 0],W4 w ss.length ss (fl,(cA,cc),cl),Uq (fl,(cA,cc),cl), .cel b3 29 [.slice y.2.1.1 y.1 y.2.1.2],JP (Bs.N ⟨w,[]⟩) 71 1 y.1 (y.2.2.map Pc.val) y.2.1,ve y.2.2]) (0,(none,0),[]) (⟨jeE _,J⟩) ⟨J,sz⟩ (fun _ h=>h) ?_
 intro⟨k,⟨rA,rc⟩,l⟩ hy L hL2
 refine v9 ?_;refine ji (by first | (dsimp only;done) | (dsimp only;rfl) | rfl) ?_
 obtain ⟨hk,hmp⟩ :k≤ss.length∧l.map (·.xs) = (qT hot ss).take k:=hy
 have hlk:l.length=k:= (by have:=congrArg List.length hmp;rw [jeX,jeV,vj] at this;omega)
 refine S5 ?_;refine cZ (fun c1=> ?_) (fun c1=> ?_)
 ·have hlt:k<ss.length:= (by omega)
  refine QF (fun w1 hs=>jc4 (hs.all 2 _ J).1 (hs.all 3 _ J).1 hx2 J hlt) ?_
  rintro⟨eb,eo,eA0,Ak,ck,hread⟩
  have eA1:cA=some ⟨eb,eo,none⟩ :=eA0
  subst eA1
  have hpos:=Qa (kU hx1.reg hlt)
  obtain ⟨ho1,ho2,ho3⟩ :=hx1.bare.on hlt
  have hsl:=zG (hot:=hot) (xs:=rg ss k) (by omega) (by omega)
  obtain ⟨E,hEe⟩ :∃E,E=J0 (rg ss k) :=⟨_,rfl⟩
  have hEl:E.length≤400:= (by rw [hEe];omega)
  refine S7 ?_;refine a9 (jj J J JH J (jd2 (fun w' hs=> (hread w' (hs.all 2 _ J).1 (hs.all 3 _ J).1 hs.fin).1))) ?_;refine S1 ?_;refine aL (fun b4=> ?_);refine N6 ?_;refine kz (T:=54) (s:=2) ?_;refine N6 ?_;refine jP uk (v:=fun x:Option Addr×Nat=> .slice x.1 (J0 (rg ss k)).length x.2) (r:=fun x=>JP 0 56 4 _ _ x) (H:=fun _=>True) J J J (lb J) (fun w1 hs=>qS (W5 Ak _ ck (rg ss k) w1 (hread w1 (hs.all 2 _ J).1 (hs.all 3 _ J).1 hs.fin).2 (by omega))) ?_
  rintro⟨eA,ec⟩ -
  refine N3 ?_
  rw [←hEe]
  refine S1 ?_;refine JI (X:=Nat×Option Addr×Nat) (fun z=>z.1≤E.length) (fun z=>E.length- z.1) (fun z=> [(11, .slice z.2.1 (uY hot E z.1).length z.2.2),(27, .int .i64 (z.1:Int))]) (kK [1,2,4,5,6,7,8,17,18,19,20,21,22,23,10,24,25,26]) (fun z=> [.cel b1 29 [.slice (some ⟨eb,eo,none⟩) ss.length cc], .cel b2 29 [.slice none 0 0],W4 w ss.length ss (fl,(some ⟨eb,eo,none⟩,cc),cl),Uq (fl,(some ⟨eb,eo,none⟩,cc),cl), .cel b3 29 [.slice rA k rc],JP (Bs.N ⟨w,[]⟩) 71 1 k (l.map Pc.val) (rA,rc),ve l, .cel b4 71 [.slice Ak (rg ss k).length ck],JP (Bs.N ⟨w,[]⟩) 54 2 (uY hot E z.1).length ((uY hot E z.1).flatMap j7) z.2,JP 0 56 4 E.length (E.flatMap jZ) (eA,ec)]) (0,none,0) (jeE _) ⟨J,sz⟩ (fun _ h=>h) ?_
  intro⟨j,qA,qc⟩ hz L hL3
  refine v9 ?_;refine ji (by first | (dsimp only;done) | (dsimp only;rfl) | rfl) ?_
  have hj:j≤E.length:=hz
  have hsn:=Xh (hot:=hot) (E:=E) (m:=1048576) (by omega) j hj
  refine S5 ?_;refine cZ (fun c2=> ?_) (fun c2=> ?_)
  ·have hjl:j<E.length:= (by omega)
   obtain ⟨g1',g2',g3'⟩ := (hEe▸ho1:onHot hot E).at_ hjl
   obtain ⟨mid,hmid⟩ :=X6 g1' g2' g3'
   have hpl:0< (Qj (lA (lg E j)) (lB (lg E j)) hot).length:= (by rw [hmid];simp)
   have hpm: (Qj (lA (lg E j)) (lB (lg E j)) hot).length≤1048576:= (by rw [W0];have:=Xn (lA (lg E j)) (lB (lg E j)) hot;omega)
   refine QF (fun w hs=>K2 (k:=9) J hs (by omega)) ?_
   rintro⟨eg,rfl⟩
   refine S7 ?_;refine a9 (jj J J qp J (y6 (b:=eg) (o:=0) (we (k:=9) (x:= (some ⟨eg,0,none⟩,ec)) (ls:=E) J J) hjl)) ?_;refine S1 ?_;refine aL (fun b5=> ?_);refine N1 ?_;refine j9 10 qa.szx ?_;refine N4 ?_;refine a9 (jj J J jl J (Yg (k:=10) J J J)) ?_;refine S1 ?_;refine a9 (jj J J jl J (Yg (k:=10) J J J)) ?_;refine S2 ?_;refine jP XX (v:=fun x:Option Addr×Nat=> .slice x.1 (Qj (lA (lg E j)) (lB (lg E j)) hot).length x.2) (r:=fun x=>JP 0 54 2 (Qj (lA (lg E j)) (lB (lg E j)) hot).length ((Qj (lA (lg E j)) (lB (lg E j)) hot).flatMap j7) x) (H:=fun _=>True) J J J (lb J) (fun w1 hs=>qS (D3 (lA (lg E j)) (lB (lg E j)) B m d hot w1 (hh.over hs.fin) (hok _ g2') (hok _ g3') hok hasc hmd hm)) ?_
   rintro⟨pA,pc⟩ -
   refine N2 ?_;refine QF (fun w hs=>K2 (k:=11) J hs hpl) ?_
   rintro⟨pg,rfl⟩
   refine QF (fun w hs=>wC (hs.all 11 _ J).1) ?_
   intro hcap
   have hst:uY hot E (j+1) =uY hot E j++ (Qj (lA (lg E j)) (lB (lg E j)) hot).take ((Qj (lA (lg E j)) (lB (lg E j)) hot).length- 1) := (by rw [Gg hjl];unfold ku;rw [List.dropLast_eq_take])
   have hstl: (uY hot E (j+1)).length= (uY hot E j).length+ ((Qj (lA (lg E j)) (lB (lg E j)) hot).length- 1) := (by rw [hst,jeC,jeV];omega)
   refine S5 ?_;refine a9 ((JC J J J (by omega) (by omega)).as (congrArg _ (show(((Qj (lA (lg E j)) (lB (lg E j)) hot).length:Int) - 1) = (((Qj (lA (lg E j)) (lB (lg E j)) hot).length- 1:Nat) :Int) by omega))) ?_;refine a9 ((kb J J J jt (by omega)).as (VG _ _ _ _ _)) ?_;refine S1 ?_;refine JL (k:=8) J jt jO (by decide) J (by decide) J J J (fun w' hs=>H5 (vx (hs.all 11 _ J).1 J) (by omega)) (Kk _) (by unfold maxLen;omega) (by omega) (jeD _) (fun r1=> ?_);refine N8 ?_
   exact j8 hL3 ((j+1,r1)) ((show j+1≤E.length by omega)) (by simp only;omega) ⟨(by rw [hstl];rfl),vi (by omega),sz⟩ (fun _ h=> (h.picks [0,1,2,3,4,5,6,7,8,9] (by decide)).upto ⟨J,J,J,J,J,J,J,J,by rw [hstl,hst,jeQ],sz⟩)
  ·have hjE:j=E.length:= (by omega)
   subst hjE
   rw [show uY hot E E.length=Km hot (rg ss k) by rw [Mw,hEe]]
   refine S9 ?_;refine a9 (JV J J (KH J)) ?_;refine S1 ?_;refine Jp J J (qz J) J (lb J) (fun b6=> ?_);refine N1 ?_;refine JL (k:=5) J jI Jn (by decide) J (by decide) J J J (fun w' hs=>q6 hs (k:=10) J J) (by simp [Value.oneCell']) (by unfold maxLen;omega) (by omega) (jeD _) (fun r2=> ?_);refine N4 ?_;refine zT 8 J J (fun clo chi=> ?_);refine ji (by simp only [jeL,jeG,jeM,jeO,jeJ,jeI,Value.cells,jeK];rfl) ?_;refine VY 6 8 J J (by decide) J ?_;refine ji (by simp only [jeL,jeG,jeM,jeO,jeJ,jeI,Value.cells,jeK];rfl) ?_;refine S6 ?_
   exact j8 hL2 ((k+1,r2,l++ [⟨Km hot (rg ss k),qA,qc,clo,chi⟩])) (⟨show k+1≤ss.length by omega,by rw [jfa,hmp,vk (by rw [vj];omega),Mr hlt];rfl⟩) (by simp only;omega) ⟨vi (by omega),sz⟩ (fun _ h=> (h.picks [0,1,2,3,4,5,6] (by decide)).upto ⟨J,J,J,J,J,by rw [jfa];rfl,(vf _ _).symm,trivial⟩)
 ·have hkn:k=ss.length:= (by omega)
  subst hkn
  have hall:l.map (·.xs) =qT hot ss:= (by rw [hmp,jfb (by rw [vj];omega)])
  have hsml:∀e∈l,e.xs.length≤1099511627776:= (fun e he=>by obtain ⟨q,hq,e2⟩ :=je7.1 (hall▸je7.2 ⟨e,he,rfl⟩ :e.xs∈qT hot ss);rw [←e2];obtain ⟨i,hi,e3⟩ :=jfm hq;have:=Qa (kU hx1.reg hi);rw [wl hi] at e3;rw [e3] at this;have:=zG (hot:=hot) (xs:=q) (by omega) (by omega);omega)
  refine S10 ?_;refine a9 (jH wv J J (fun w1 hs=>uC rA cA ss.length ss.length rc cc (qT hot ss) ss w1 (hall▸Gd (hs.all 5 _ J).1 (hs.all 6 _ J).1 hlk hsml) (NX (hs.all 2 _ J).1 (hs.all 3 _ J).1 hs.fin hx2 J hsm) (by omega))) ?_;refine S1 ?_;refine cZ (fun c3=> ?_) (fun c3=> ?_)
  ·have hsame:qT hot ss=ss:= (by simpa using c3)
   refine S15 ?_;refine HI J (J3 (k:=1) J jn J J) (.tmp J) (.tmp J) ?_
   intro w' hs
   obtain ⟨e1,e2,e3⟩ :=Fa (hx1.fin hsame)
   refine⟨cA,cc,by rw [e1,e2,e3];rfl,?_,hs.fin⟩
   rw [e1]
   cases fl
   ·exact .inr (UV hs (kr:=2) (kp:=3) rfl rfl (by decide) rfl (by have:=congrArg List.length (hx2 rfl);rw [jeX] at this;omega) (hx2 rfl) (fun j hj=>by have:=hsm _ (jeW hj);rw [wl hj] at this;omega))
   ·exact(by obtain ⟨q1,q2⟩ :=hx3 rfl;injection q2 with q2 q3;exact .inl ⟨q2,q3,q1⟩)
  ·refine S6 ?_;refine a9 (jH ka J J (fun w1 hs=>KG rA ss.length rc (qT hot ss) w1 (hall▸Gd (hs.all 5 _ J).1 (hs.all 6 _ J).1 hlk hsml) (by omega))) ?_;refine S2 ?_;refine cZ (fun c4=> ?_) (fun c4=> ?_)
   ·refine S2 ?_;refine a9 (JV J J (qf)) ?_;refine S11 ?_;refine HI J (J3 (k:=1) J jn J J) (.tmp J) (.tmp J) ?_
    intro w' hs
    obtain ⟨e1,e2,e3⟩ :=D9 (hx1.full c4)
    exact⟨none,0,by rw [e1,e2,e3];rfl,by rw [e1];exact .inr (OwnG.nil none),hs.fin⟩
   ·obtain ⟨k1,k2⟩ :=hx1.step hnd c4 (by simpa using c3)
    have hc4:=DV k1.reg k1.bare
    refine S14 ?_
    exact j8 hL1 ((r+1,qT hot ss,false,(rA,rc),l)) (⟨k1,(fun _=>hall),(fun e=>by cases e)⟩) (by simp only;omega) ⟨vi (by omega),sz⟩ (fun _ h=> (h.picks [0,1,5,6] (by decide)).upto ⟨by rw [vj],rfl,by rw [vj];rfl,sz⟩)
end Go.Proofs.YtkagkgjjfdkoaaaGreat
namespace Go.Proofs.YtkagkgjjfdkoaaaGreat
open Go Go.Shelf
def yG:Go.Shelf.Ren:=⟨fun | 6=>75 | 15=>115 | 14=>114 | 28=>159 | 29=>160 | 20=>151 | 21=>152 | 22=>153 | 23=>154 | 24=>155 | 25=>156 | 26=>157 | 27=>158 | 46=>172 | 47=>173 | 48=>174 | 49=>175 | 50=>176 | 57=>193 | n=>n,fun | 22=>58 | 24=>54 | 25=>97 | 3=>3 | 39=>141 | 0=>0 | 53=>186 | 55=>188 | 4=>4 | 46=>180 | 45=>179 | 50=>144 | 5=>5 | 9=>9 | 66=>195 | 70=>199 | 76=>218 | 77=>219 | n=>n,fun | n=>n⟩
theorem jaD:Go.Proofs.SlLaysF0.n6 Tryz.prog yG:= {
 mixed:=by kernel_rfl
 f6:=⟨Tryz.f75.name,by decide,Tryz.func75.trans (congrArg some (by kernel_rfl))⟩
 f14:=⟨Tryz.f114.name,by decide,Tryz.func114.trans (congrArg some (by kernel_rfl))⟩
 f15:=Tryz.func115.trans (congrArg some (by kernel_rfl))
 f20:=⟨Tryz.f151.name,by decide,Tryz.func151.trans (congrArg some (by kernel_rfl))⟩
 f21:=⟨Tryz.f152.name,by decide,Tryz.func152.trans (congrArg some (by kernel_rfl))⟩
 f22:=⟨Tryz.f153.name,by decide,Tryz.func153.trans (congrArg some (by kernel_rfl))⟩
 f23:=⟨Tryz.f154.name,by decide,Tryz.func154.trans (congrArg some (by kernel_rfl))⟩
 f24:=⟨Tryz.f155.name,by decide,Tryz.func155.trans (congrArg some (by kernel_rfl))⟩
 f25:=⟨Tryz.f156.name,by decide,Tryz.func156.trans (congrArg some (by kernel_rfl))⟩
 f26:=⟨Tryz.f157.name,by decide,Tryz.func157.trans (congrArg some (by kernel_rfl))⟩
 f27:=⟨Tryz.f158.name,by decide,Tryz.func158.trans (congrArg some (by kernel_rfl))⟩
 f28:=Tryz.func159.trans (congrArg some (by kernel_rfl))
 f29:=Tryz.func160.trans (congrArg some (by kernel_rfl))
 f46:=⟨Tryz.f172.name,by decide,Tryz.func172.trans (congrArg some (by kernel_rfl))⟩
 f47:=Tryz.func173.trans (congrArg some (by kernel_rfl))
 f48:=Tryz.func174.trans (congrArg some (by kernel_rfl))
 f49:=⟨Tryz.f175.name,by decide,Tryz.func175.trans (congrArg some (by kernel_rfl))⟩
 f50:=⟨Tryz.f176.name,by decide,Tryz.func176.trans (congrArg some (by kernel_rfl))⟩
 f57:=⟨Tryz.f193.name,by decide,Tryz.func193.trans (congrArg some (by kernel_rfl))⟩
 t0:=Tryz.underlying0
 a0:=Tryz.isAgg0
 z0:=Tryz.sizeOf0
 v0:=Tryz.zeroValue0
 t3:=Tryz.underlying3
 a3:=Tryz.isAgg3
 z3:=Tryz.sizeOf3
 v3:=Tryz.zeroValue3
 t4:=Tryz.underlying4
 a4:=Tryz.isAgg4
 z4:=Tryz.sizeOf4
 v4:=Tryz.zeroValue4
 t5:=Tryz.underlying5
 a5:=Tryz.isAgg5
 z5:=Tryz.sizeOf5
 v5:=Tryz.zeroValue5
 t9:=Tryz.underlying9
 a9:=Tryz.isAgg9
 z9:=Tryz.sizeOf9
 v9:=Tryz.zeroValue9
 t22:=Tryz.underlying58
 a22:=Tryz.isAgg58
 z22:=Tryz.sizeOf58
 v22:=Tryz.zeroValue58
 t25:=Tryz.underlying97
 a25:=Tryz.isAgg97
 z25:=Tryz.sizeOf97
 v25:=Tryz.zeroValue97
 t39:=Tryz.underlying141
 a39:=Tryz.isAgg141
 z39:=Tryz.sizeOf141
 v39:=Tryz.zeroValue141
 t45:=Tryz.underlying179
 a45:=Tryz.isAgg179
 z45:=Tryz.sizeOf179
 v45:=Tryz.zeroValue179
 t46:=Tryz.underlying180
 a46:=Tryz.isAgg180
 z46:=Tryz.sizeOf180
 v46:=Tryz.zeroValue180
 t50:=Tryz.underlying144
 a50:=Tryz.isAgg144
 z50:=Tryz.sizeOf144
 v50:=Tryz.zeroValue144
 t53:=Tryz.underlying186
 a53:=Tryz.isAgg186
 z53:=Tryz.sizeOf186
 v53:=Tryz.zeroValue186
 t55:=Tryz.underlying188
 a55:=Tryz.isAgg188
 z55:=Tryz.sizeOf188
 v55:=Tryz.zeroValue188
 t66:=Tryz.underlying195
 a66:=Tryz.isAgg195
 z66:=Tryz.sizeOf195
 v66:=Tryz.zeroValue195
 t70:=Tryz.underlying199
 a70:=Tryz.isAgg199
 z70:=Tryz.sizeOf199
 v70:=Tryz.zeroValue199
 t76:=Tryz.underlying218
 a76:=Tryz.isAgg218
 z76:=Tryz.sizeOf218
 v76:=Tryz.zeroValue218
 t77:=Tryz.underlying219
 a77:=Tryz.isAgg219
 z77:=Tryz.sizeOf219
 v77:=Tryz.zeroValue219}
end Go.Proofs.YtkagkgjjfdkoaaaGreat
