import Derived.Test.YtbahojdbmmjkcaaGreatPOrd
import Derived.Test.YtbahojdbmmjkcaaGreatPEnds
import Derived.Test.YtbahojdbmmjkcaaGreatPSd2
import Derived.Test.YtbahojdbmmjkcaaGreatPSnapB
import Derived.Shelf.SlSortCmp.WholeK
import Derived.Test.YtbahojdbmmjkcaaGreatPHot
set_option linter.unusedVariables false
set_option linter.unusedSimpArgs false
namespace Go.Proofs.YtbahojdbmmjkcaaGreat
open Go Go.RowKit
variable {A:Option Addr} {K:Act→World→Prop} {Rs:List Res} {env:List (Nat×Value)} {l:List Pc} {n:Nat} {rs:List jK} {w:World} {x:Option Addr×Nat}
set_option maxRecDepth 100000
set_option maxHeartbeats 4000000
theorem jdc {xs ys:List Pn} (hl:xs.length=ys.length) (h:∀j,j<xs.length→pt xs j=pt ys j) :xs=ys:=by
 apply jhH hl
 intro i h1 h2
 rw [Kl h1,Kl h2]
 exact h i h1
theorem PS (A B:Option Addr) (n m c d:Nat) (xs ys:List Pn) (w:World) (h:Pts w A n xs) (h':Pts w B m ys) (hn: (n:Int)≤9223372036854775807) :
  Calls Tryz.prog 142 #[.slice A n c, .slice B m d] w fun e w'=>e= .returned (.bool (decide (xs=ys)))∧Over w w':=by
 have hl:=h.1
 have hl':=h'.1
 refine jT (m:=26) (Tryz.func142) J J (lb J) ?_;refine S13 ?_;refine cZ (fun c1=> ?_) (fun c1=> ?_)
 ·refine S6 ?_;refine jL J (.tmp J) ?_
  intro w' hs
  exact⟨Qs (decide_eq_false (fun e=>by subst e;omega)).symm,hs.fin⟩
 ·have hnm:n=m:=Om
  subst hnm
  refine S10 ?_;refine J9 (X:=Nat) (fun k=>k≤n∧∀j,j<k→pt xs j=pt ys j) (fun k=>n- k) (fun k=> [(13, .int .i64 (k:Int))]) (kK [0,1,4,12]) 0 (⟨jgw _,fun j hj=>absurd hj Om⟩) ⟨J,sz⟩ ?_
  intro k hk L hL1
  refine v9 ?_
  obtain ⟨hk1,hk2⟩ :=hk
  refine S5 ?_;refine cZ (fun c2=> ?_) (fun c2=> ?_)
  ·have hlt:k<n:=Om
   obtain ⟨eb,eo,rfl,_⟩ :=h.2 Om
   obtain ⟨fb,fo,rfl,_⟩ :=h'.2 Om
   refine S11 ?_;refine JS 9 ?_;refine dK 0 ?_;refine dK 1 ?_;refine dK 2 ?_;refine dZ 3 J (jk J J jj J (wz (b:=eb) (o:=eo) h hlt)) ?_;refine dK 4 ?_;refine dK 5 ?_;refine dK 6 ?_;refine dZ 7 J (jk J J jj J (wz (b:=fb) (o:=fo) h' hlt)) ?_;refine dK 8 ?_;refine JI Kr ?_;refine S1 ?_;refine cZ (fun c3=> ?_) (fun c3=> ?_)
   ·refine S10 ?_;refine jL J (.tmp J) ?_
    intro w' hs
    exact⟨Qs (decide_eq_false (fun e=>by subst e;simp at c3)).symm,hs.fin⟩
   ·have he:pt xs k=pt ys k:= (by simp at c3;exact Prod.ext c3.1 c3.2)
    refine S7 ?_
    exact JY hL1 (k+1) (⟨by omega,fun j hj=>by by_cases hjk:j=k;rw [hjk];exact he;exact hk2 j Om⟩) Om ⟨vi Om,sz⟩ (u9 rfl)
  ·refine S10 ?_;refine jL J (.tmp J) ?_
   intro w' hs
   exact⟨Qs (decide_eq_true (jdc Om fun j hj=>hk2 j Om)).symm,hs.fin⟩
theorem FJ (A B:Option Addr) (n m c d:Nat) (xs ys:List Pn) (w:World) (h:Pts w A n xs) (h':Pts w B m ys) (hn: (n:Int)≤9223372036854775807) :
  Calls Tryz.prog 177 #[Uv A n c,Uv B m d] w fun e w'=>e= .returned (.bool (decide (xs=ys)))∧Over w w':=by
 refine jT (m:=10) (Tryz.func177) J J (lb J) ?_;refine S3 ?_;refine aX (fun b1=> ?_);refine N1 ?_;refine aX (fun b2=> ?_);refine N8 ?_;refine a9 (jJ wi J J (fun w1 hs=>PS A B n m c d xs ys w1 (h.over hs.fin) (h'.over hs.fin) hn)) ?_;refine S3 ?_;refine jL J (.tmp J) ?_
 intro w' hs
 exact⟨rfl,hs.fin⟩
theorem Ot (A B:Option Addr) (n m c d:Nat) (rs ss:List jK) (w:World) (h:Rings w A n rs) (h':Rings w B m ss) (hn: (n:Int)≤9223372036854775807) :
  Calls Tryz.prog 176 #[.slice A n c, .slice B m d, .func (.func 177) #[] #[]] w fun e w'=>e= .returned (.bool (decide (rs=ss)))∧Over w w':=by
 have hl:=h.1
 have hl':=h'.1
 refine jT (m:=32) (Tryz.func176) J J (lb J) ?_;refine S13 ?_;refine cZ (fun c1=> ?_) (fun c1=> ?_)
 ·refine S6 ?_;refine jL J (.tmp J) ?_
  intro w' hs
  exact⟨Qs (decide_eq_false (fun e=>by subst e;omega)).symm,hs.fin⟩
 ·have hnm:n=m:=Om
  subst hnm
  refine S10 ?_;refine J9 (X:=Nat) (fun k=>k≤n∧∀j,j<k→rg rs j=rg ss j) (fun k=>n- k) (fun k=> [(17, .int .i64 (k:Int))]) (kK [1,2,6,15,16]) 0 (⟨jgw _,fun j hj=>absurd hj Om⟩) ⟨J,sz⟩ ?_
  intro k hk L hL1
  refine v9 ?_
  obtain ⟨hk1,hk2⟩ :=hk
  refine S5 ?_;refine cZ (fun c2=> ?_) (fun c2=> ?_)
  ·have hlt:k<n:=Om
   obtain ⟨eb,eo,Ak,ck,rfl,hbB,hcell,hpts,hmax⟩ :=h.at_ hlt
   obtain ⟨fb,fo,Bk,dk,rfl,hbB2,hcell2,hpts2,hmax2⟩ :=h'.at_ hlt
   refine S8 ?_;refine a9 (jk J J JB J (uW hcell hbB)) ?_;refine S1 ?_;refine aL (fun b1=> ?_);refine N9 ?_;refine a9 (jk J J JB J (uW hcell2 hbB2)) ?_;refine S1 ?_;refine aL (fun b2=> ?_);refine N8 ?_;refine a9 (vA Y2 J J J (fun w1 hs=>FJ Ak Bk _ _ ck dk (rg rs k) (rg ss k) w1 (hpts.over hs.fin) (hpts2.over hs.fin) hmax)) ?_;refine S2 ?_;refine cZ (fun c3=> ?_) (fun c3=> ?_)
   ·refine S10 ?_;refine jL J (.tmp J) ?_
    intro w' hs
    exact⟨Qs (decide_eq_false (fun e=>by subst e;simp at c3)).symm,hs.fin⟩
   ·have he:rg rs k=rg ss k:= (by simpa using c3)
    refine S7 ?_
    exact JY hL1 (k+1) (⟨by omega,fun j hj=>by by_cases hjk:j=k;rw [hjk];exact he;exact hk2 j Om⟩) Om ⟨vi Om,sz⟩ (u9 rfl)
  ·refine S10 ?_;refine jL J (.tmp J) ?_
   intro w' hs
   exact⟨Qs (decide_eq_true (FG Om fun j hj=>hk2 j Om)).symm,hs.fin⟩
theorem Yx (A B:Option Addr) (n m c d:Nat) (rs ss:List jK) (w:World) (h:Rings w A n rs) (h':Rings w B m ss) (hn: (n:Int)≤9223372036854775807) :
  Calls Tryz.prog 115 #[qK A n c,qK B m d] w fun e w'=>e= .returned (.bool (decide (rs=ss)))∧Over w w':=by
 refine jT (m:=10) (Tryz.func115) J J (lb J) ?_;refine S3 ?_;refine aX (fun b1=> ?_);refine N1 ?_;refine aX (fun b2=> ?_);refine N8 ?_;refine a9 (jJ QX J J (fun w1 hs=>Ot A B n m c d rs ss w1 (h.over hs.fin) (h'.over hs.fin) hn)) ?_;refine S3 ?_;refine jL J (.tmp J) ?_
 intro w' hs
 exact⟨rfl,hs.fin⟩
theorem NX (h: (ke l).P w) {e:Pc} (he:e∈l) :Pts w e.A e.xs.length e.xs:=by
 have h1:= (h.1 e.res (jgO.2 ⟨e,he,rfl⟩)).1
 exact(CL h1).pts
theorem Gm {B T:Nat} (hr: (JQ B T 1 n (l.map Pc.val) x).P w) (hP: (ke l).P w) (hl:l.length=n) (hs:∀e∈l,e.xs.length≤1099511627776) :Rings w x.1 n (l.map (·.xs)) :=by
 have hrow:w.ownsRow B T 1 (.slice x.1 n x.2) n (l.map Pc.val) :=hr
 refine⟨by rw [jgF,hl],fun h0=> ?_⟩
 rcases hrow.2 with⟨_,e⟩ |⟨g,cap,cur,e,hb,hg,_⟩
 ·omega
 ·injection e with e1 e2 e3
  refine⟨g,0,e1,JZ hg,fun k hk=> ?_⟩
  have hkl:k<l.length:=by omega
  have hm:=jgH hkl
  rw [yR hkl]
  refine⟨l[k].A,l[k].c,?_,NX hP hm,by have:=hs _ hm;omega⟩
  have:=hrow.cells (g:=g) (by show Value.ownBlock (.slice x.1 n x.2) =some g;rw [e1];rfl) k l[k].val (by rw [List.getElem?_map,List.getElem?_eq_getElem hkl];rfl)
  rw [QJ] at this
  exact this
abbrev Ep:=Bool×(Option Addr×Nat)×List Pc
def W5 (w:World) (n:Nat) (rs:List jK) (x:Ep) :Res:=
 if x.1=true then {F:=fun _=>False,P:=fun _=>Rings w x.2.1.1 n rs,low:=fun _ _ _ h=>h.elim,B:=0,dep:=fun _ _ h _ _=>h} else JQ (Bs.N ⟨w,[]⟩) 74 1 n (x.2.2.map Pc.val) x.2.1
def UC (x:Ep) :Res:=
 if x.1=true then {F:=fun _=>False,P:=fun _=>True,low:=fun _ _ _ h=>h.elim,B:=0,dep:=fun _ _ h _ _=>h} else ke x.2.2
theorem jcz {m:Nat} {c:Nat} (h0:Rings w A n rs) (h:At m env ⟨w,[]⟩ (Rs++ [W5 w n rs (true,(A,c),[])] ++ [UC (true,(A,c),[])]) K) :At m env ⟨w,[]⟩ Rs K:=
 fun a w1 hf hs=>h a w1 hf ((hs.add (r:=W5 w n rs (true,(A,c),[])) (Over.refl _) (show Rings w A n rs from h0) (fun b hb=> (show False from hb).elim) ⟨jgw _,fun _ _=>jgw _⟩).add (r:=UC (true,(A,c),[])) (Over.refl _) (show True from trivial) (fun b hb=> (show False from hb).elim) ⟨jgw _,fun _ _=>jgw _⟩)
theorem Cf {w':World} {x:Ep} (hr: (W5 w n rs x).P w') (hp: (UC x).P w') (hO:Over w w') (hx:x.1=false→x.2.2.map (·.xs) =rs) (hn:rs.length=n) (hsm:∀r∈rs,r.length≤1099511627776) :Rings w' x.2.1.1 n rs:=by
 unfold W5 at hr
 unfold UC at hp
 by_cases hf:x.1=true
 ·rw [if_pos hf] at hr
  exact(show Rings w x.2.1.1 n rs from hr).over hO
 ·rw [if_neg hf] at hr hp
  have e:=hx (by simpa using hf)
  have hll:x.2.2.length=n:=by have:=congrArg List.length e;rw [jgF] at this;omega
  have:=Gm hr hp hll (fun d hd=>hsm d.xs (e▸jgO.2 ⟨d,hd,rfl⟩))
  rwa [e] at this
theorem jeN {w1:World} {k:Nat} {x:Ep} (hr: (W5 w n rs x).P w1) (hp: (UC x).P w1) (hx:x.1=false→x.2.2.map (·.xs) =rs) (hn:rs.length=n) (hk:k<n) :
  ∃bb oo,x.2.1.1=some ⟨bb,oo,none⟩∧∃Ak ck,∀w',(W5 w n rs x).P w'→(UC x).P w'→Over w w'→w'.cell? ⟨bb,oo+k,none⟩ =some (.slice Ak (rg rs k).length ck)∧Pts w' Ak (rg rs k).length (rg rs k) :=by
 by_cases hf:x.1=true
 ·have hR:Rings w x.2.1.1 n rs:=by unfold W5 at hr;rw [if_pos hf] at hr;exact hr
  obtain ⟨bb,oo,Ak,ck,e,hbB,hcell,hpts,_⟩ :=hR.at_ hk
  exact⟨bb,oo,e,Ak,ck,fun w' _ _ hO=>⟨((Jt hO).1 bb _ hbB).trans hcell,hpts.over hO⟩⟩
 ·have e:=hx (by simpa using hf)
  have hll:x.2.2.length=n:=by have:=congrArg List.length e;rw [jgF] at this;omega
  have hkl:k<x.2.2.length:=by omega
  have hrow:w1.ownsRow (Bs.N ⟨w,[]⟩) 74 1 (.slice x.2.1.1 n x.2.1.2) n (x.2.2.map Pc.val) :=by unfold W5 at hr;rw [if_neg hf] at hr;exact hr
  rcases hrow.2 with⟨_,e0⟩ |⟨g,cap,cur,e0,hb,hg,_⟩
  ·omega
  ·injection e0 with e1 e2 e3
   have hrg:rg rs k=x.2.2[k].xs:=by rw [←e,yR hkl]
   refine⟨g,0,e1,x.2.2[k].A,x.2.2[k].c,fun w' hr' hp' _=> ?_⟩
   have hrow':w'.ownsRow (Bs.N ⟨w,[]⟩) 74 1 (.slice x.2.1.1 n x.2.1.2) n (x.2.2.map Pc.val) :=by unfold W5 at hr';rw [if_neg hf] at hr';exact hr'
   have hP': (ke x.2.2).P w':=by unfold UC at hp';rw [if_neg hf] at hp';exact hp'
   rw [hrg]
   refine⟨?_,NX hP' (jgH hkl)⟩
   have:=hrow'.cells (g:=g) (by show Value.ownBlock (.slice x.2.1.1 n x.2.1.2) =some g;rw [e1];rfl) k x.2.2[k].val (by rw [List.getElem?_map,List.getElem?_eq_getElem hkl];rfl)
   rw [QJ] at this
   exact this
theorem jf5 {w0:Bs} {b o k:Nat} {v:Value} (h:∀w',St w0 Rs w'→w'.cell? ⟨b,o+k,none⟩ =some v) :∀w',St w0 Rs w'→∀q u,[v][q]? =some u→w'.cell? ⟨b,o+k*1+q,none⟩ =some u:=fun w' hs q u hq=>by
 match q,hq with
 | 0,hq=>simp at hq;subst hq;rw [jhn,jhV];exact h w' hs
theorem zl (A:Option Addr) (n c:Nat) (rs:List jK) (B:Option Addr) (m d:Nat) (hot:List Pn) (w:World) (h:Rings w A n rs) (hr:JW rs=true) (hh:Pts w B m hot) (hm:m≤1048576) (hmd:m≤d) (hok:∀p∈hot,wF p.1 p.2=true) (hasc:Asc hot) (hnd:hot.Nodup) (hG:bareG hot rs) :
  Calls Tryz.prog 58 #[qK A n c, .slice B m d] w fun e w'=>∃A' c',e= .returned (.tuple #[qK A' (Sd hot rs).length c', .int .i64 (PI hot rs), .int .i64 (if Fq9 hot rs=true then 0 else 5)])∧((A'=A∧c'=c∧Sd hot rs=rs)∨OwnG w.heap.size w'.heap.size w' A' (Sd hot rs).length (Sd hot rs))∧Over w w':=by
 have hl:=h.1
 subst hl
 have hhl:=hh.1
 refine jT (m:=63) (Tryz.func58) J J (lb J) ?_;refine S3 ?_;refine aX (fun b1=> ?_);refine N1 ?_;refine aL (fun b2=> ?_);refine N7 ?_;refine jcz (c:=c) h ?_;refine t9 ?_;refine S1 ?_;refine JN (X:=Nat×List jK×Ep) (fun x=>StabI hot rs x.2.1 x.1∧(x.2.2.1=false→x.2.2.2.2.map (·.xs) =x.2.1)∧(x.2.2.1=true→x.2.1=rs∧x.2.2.2.1= (A,c))) (fun x=>401- cnt x.2.1) (fun x=> [(7, .int .i64 (x.1:Int))]) (kK [1,2,4,5,6]) (fun x=> [.cel b1 26 [.slice x.2.2.2.1.1 x.2.1.length x.2.2.2.1.2], .cel b2 26 [.slice none 0 0],W5 w x.2.1.length x.2.1 x.2.2,UC x.2.2]) (0,rs,true,(A,c),[]) (⟨StabI.start hr hG,(fun e=>by cases e),fun _=>⟨rfl,rfl⟩⟩) ⟨rfl,sz⟩ (fun _ h=>h) ?_
 intro⟨r,ss,fl,⟨cA,cc⟩,cl⟩ hx L hL1
 refine v9 ?_;refine r9 ?_
 obtain ⟨hx1,hx2,hx3⟩ :StabI hot rs ss r∧(fl=false→cl.map (·.xs) =ss)∧(fl=true→ss=rs∧(cA,cc) = (A,c)) :=hx
 have hr400:=hx1.r_le
 have hs40:=vO hx1.reg
 have hsm:∀q∈ss,q.length≤1099511627776:= (fun q hq=>by obtain ⟨i,hi,e⟩ :=jg1 hq;have:=qS (vN hx1.reg hi);rw [Vm hi] at e;rw [e] at this;omega)
 refine S5 ?_;refine aL (fun b3=> ?_);refine N1 ?_;refine kh (T:=74) (s:=1) ?_;refine t9 ?_;refine vu ?_;refine t9 ?_;refine S9 ?_;refine JN (X:=Nat×(Option Addr×Nat)×List Pc) (fun y=>y.1≤ss.length∧y.2.2.map (·.xs) = (qY hot ss).take y.1) (fun y=>ss.length- y.1) (fun y=> [(20, .int .i64 (y.1:Int))]) (kK [1,2,4,5,6,7,8,17,18,19]) (fun y=> [.cel b1 26 [.slice cA ss.length cc], .cel b2 26 [.slice none 0 0],W5 w ss.length ss (fl,(cA,cc),cl),UC (fl,(cA,cc),cl), .cel b3 26 [.slice y.2.1.1 y.1 y.2.1.2],JQ (Bs.N ⟨w,[]⟩) 74 1 y.1 (y.2.2.map Pc.val) y.2.1,ke y.2.2]) (0,(none,0),[]) (⟨jgw _,J⟩) ⟨J,sz⟩ (fun _ h=>h) ?_
 intro⟨k,⟨rA,rc⟩,l⟩ hy L hL2
 refine v9 ?_;refine r9 ?_
 obtain ⟨hk,hmp⟩ :k≤ss.length∧l.map (·.xs) = (qY hot ss).take k:=hy
 have hlk:l.length=k:= (by have:=congrArg List.length hmp;rw [jgF,jgJ,vc] at this;omega)
 refine S5 ?_;refine cZ (fun c1=> ?_) (fun c1=> ?_)
 ·have hlt:k<ss.length:=Om
  refine Q1 (fun w1 hs=>jeN (hs.all 2 _ J).1 (hs.all 3 _ J).1 hx2 J hlt) ?_
  rintro⟨eb,eo,eA0,Ak,ck,hread⟩
  have eA1:cA=some ⟨eb,eo,none⟩ :=eA0
  subst eA1
  have hpos:=qS (vN hx1.reg hlt)
  obtain ⟨ho1,ho2,ho3⟩ :=hx1.bare.on hlt
  have hsl:=zM (hot:=hot) (xs:=rg ss k) Om Om
  obtain ⟨E,hEe⟩ :∃E,E=Jy (rg ss k) :=⟨_,rfl⟩
  have hEl:E.length≤400:= (by rw [hEe];omega)
  refine S7 ?_;refine a9 (jk J J JB J (jf5 (fun w' hs=> (hread w' (hs.all 2 _ J).1 (hs.all 3 _ J).1 hs.fin).1))) ?_;refine S1 ?_;refine aL (fun b4=> ?_);refine N6 ?_;refine kh (T:=28) (s:=2) ?_;refine N6 ?_;refine JR ka (v:=fun x:Option Addr×Nat=> .slice x.1 (Jy (rg ss k)).length x.2) (r:=fun x=>JQ 0 96 4 _ _ x) (H:=fun _=>True) J J J (lb J) (fun w1 hs=>qJ (kb Ak _ ck (rg ss k) w1 (hread w1 (hs.all 2 _ J).1 (hs.all 3 _ J).1 hs.fin).2 Om)) ?_
  rintro⟨eA,ec⟩ -
  refine N3 ?_
  rw [←hEe]
  refine S1 ?_;refine JN (X:=Nat×Option Addr×Nat) (fun z=>z.1≤E.length) (fun z=>E.length- z.1) (fun z=> [(11, .slice z.2.1 (Ud hot E z.1).length z.2.2),(27, .int .i64 (z.1:Int))]) (kK [1,2,4,5,6,7,8,17,18,19,20,21,22,23,10,24,25,26]) (fun z=> [.cel b1 26 [.slice (some ⟨eb,eo,none⟩) ss.length cc], .cel b2 26 [.slice none 0 0],W5 w ss.length ss (fl,(some ⟨eb,eo,none⟩,cc),cl),UC (fl,(some ⟨eb,eo,none⟩,cc),cl), .cel b3 26 [.slice rA k rc],JQ (Bs.N ⟨w,[]⟩) 74 1 k (l.map Pc.val) (rA,rc),ke l, .cel b4 74 [.slice Ak (rg ss k).length ck],JQ (Bs.N ⟨w,[]⟩) 28 2 (Ud hot E z.1).length ((Ud hot E z.1).flatMap Ju) z.2,JQ 0 96 4 E.length (E.flatMap jU) (eA,ec)]) (0,none,0) (jgw _) ⟨J,sz⟩ (fun _ h=>h) ?_
  intro⟨j,qA,qc⟩ hz L hL3
  refine v9 ?_;refine r9 ?_
  have hj:j≤E.length:=hz
  have hsn:=Xj (hot:=hot) (E:=E) (m:=1048576) Om j hj
  refine S5 ?_;refine cZ (fun c2=> ?_) (fun c2=> ?_)
  ·have hjl:j<E.length:=Om
   obtain ⟨g1',g2',g3'⟩ := (hEe▸ho1:onHot hot E).at_ hjl
   obtain ⟨mid,hmid⟩ :=Gf g1' g2' g3'
   have hpl:0< (Qi (lA (lg E j)) (lB (lg E j)) hot).length:= (by rw [hmid];simp)
   have hpm: (Qi (lA (lg E j)) (lB (lg E j)) hot).length≤1048576:= (by rw [W3];have:=Xo (lA (lg E j)) (lB (lg E j)) hot;omega)
   refine Q1 (fun w hs=>KX (k:=9) J hs Om) ?_
   rintro⟨eg,rfl⟩
   refine S7 ?_;refine a9 (jk J J qm J (uV (b:=eg) (o:=0) (QO (k:=9) (x:= (some ⟨eg,0,none⟩,ec)) (ls:=E) J J) hjl)) ?_;refine S1 ?_;refine aL (fun b5=> ?_);refine N1 ?_;refine j9 10 qd.szx ?_;refine N4 ?_;refine a9 (jk J J jj J (yo (k:=10) J J J)) ?_;refine S1 ?_;refine a9 (jk J J jj J (yo (k:=10) J J J)) ?_;refine S2 ?_;refine JR X1 (v:=fun x:Option Addr×Nat=> .slice x.1 (Qi (lA (lg E j)) (lB (lg E j)) hot).length x.2) (r:=fun x=>JQ 0 28 2 (Qi (lA (lg E j)) (lB (lg E j)) hot).length ((Qi (lA (lg E j)) (lB (lg E j)) hot).flatMap Ju) x) (H:=fun _=>True) J J J (lb J) (fun w1 hs=>qJ (FM (lA (lg E j)) (lB (lg E j)) B m d hot w1 (hh.over hs.fin) (hok _ g2') (hok _ g3') hok hasc hmd hm)) ?_
   rintro⟨pA,pc⟩ -
   refine N2 ?_;refine Q1 (fun w hs=>KX (k:=11) J hs hpl) ?_
   rintro⟨pg,rfl⟩
   refine Q1 (fun w hs=>W8 (hs.all 11 _ J).1) ?_
   intro hcap
   have hst:Ud hot E (j+1) =Ud hot E j++ (Qi (lA (lg E j)) (lB (lg E j)) hot).take ((Qi (lA (lg E j)) (lB (lg E j)) hot).length- 1) := (by rw [Gr hjl];unfold kt;rw [List.dropLast_eq_take])
   have hstl: (Ud hot E (j+1)).length= (Ud hot E j).length+ ((Qi (lA (lg E j)) (lB (lg E j)) hot).length- 1) := (by rw [hst,jgv,jgJ];omega)
   refine S5 ?_;refine a9 ((JL J J J Om Om).as (congrArg _ (show(((Qi (lA (lg E j)) (lB (lg E j)) hot).length:Int) - 1) = (((Qi (lA (lg E j)) (lB (lg E j)) hot).length- 1:Nat) :Int) by omega))) ?_;refine a9 ((kS J J J jB Om).as (w6 _ _ _ _ _)) ?_;refine S1 ?_;refine JV (k:=8) J jB jH Dc J Dc J J J (fun w' hs=>FO (WI (hs.all 11 _ J).1 J) Om) (Ve _) (by unfold maxLen;omega) Om (jgx _) (fun r1=> ?_);refine N8 ?_
   exact j4 hL3 ((j+1,r1)) ((show j+1≤E.length by omega)) (by simp only;omega) ⟨(by rw [hstl];rfl),vi Om,sz⟩ (fun _ h=> (h.picks [0,1,2,3,4,5,6,7,8,9] Dc).upto ⟨J,J,J,J,J,J,J,J,by rw [hstl,hst,jgG],sz⟩)
  ·have hjE:j=E.length:=Om
   subst hjE
   rw [show Ud hot E E.length=Km hot (rg ss k) by rw [MP,hEe]]
   refine S9 ?_;refine a9 (J0 J J (kV J)) ?_;refine S1 ?_;refine Jw J J (qp J) J (lb J) (fun b6=> ?_);refine N1 ?_;refine JV (k:=5) J jw Js Dc J Dc J J J (fun w' hs=>qR hs (k:=10) J J) (by simp [Value.oneCell']) (by unfold maxLen;omega) Om (jgx _) (fun r2=> ?_);refine N4 ?_;refine y4 8 J J (fun clo chi=> ?_);refine t9 ?_;refine KU 6 8 J J Dc J ?_;refine t9 ?_;refine S6 ?_
   exact j4 hL2 ((k+1,r2,l++ [⟨Km hot (rg ss k),qA,qc,clo,chi⟩])) (⟨show k+1≤ss.length by omega,by rw [jgS,hmp,VA (by rw [vc];omega),MI hlt];rfl⟩) (by simp only;omega) ⟨vi Om,sz⟩ (fun _ h=> (h.picks [0,1,2,3,4,5,6] Dc).upto ⟨J,J,J,J,J,by rw [jgS];rfl,(K9 _ _).symm,trivial⟩)
 ·have hkn:k=ss.length:=Om
  subst hkn
  have hall:l.map (·.xs) =qY hot ss:= (by rw [hmp,jgR (by rw [vc];omega)])
  have hsml:∀e∈l,e.xs.length≤1099511627776:= (fun e he=>by obtain ⟨q,hq,e2⟩ :=jgO.1 (hall▸jgO.2 ⟨e,he,rfl⟩ :e.xs∈qY hot ss);rw [←e2];obtain ⟨i,hi,e3⟩ :=jg1 hq;have:=qS (vN hx1.reg hi);rw [Vm hi] at e3;rw [e3] at this;have:=zM (hot:=hot) (xs:=q) Om Om;omega)
  refine S10 ?_;refine a9 (jJ uL J J (fun w1 hs=>Yx rA cA ss.length ss.length rc cc (qY hot ss) ss w1 (hall▸Gm (hs.all 5 _ J).1 (hs.all 6 _ J).1 hlk hsml) (Cf (hs.all 2 _ J).1 (hs.all 3 _ J).1 hs.fin hx2 J hsm) Om)) ?_;refine S1 ?_;refine cZ (fun c3=> ?_) (fun c3=> ?_)
  ·have hsame:qY hot ss=ss:= (by simpa using c3)
   refine S15 ?_;refine HW J (qh (k:=1) J jI J J) (.tmp J) (.tmp J) ?_
   intro w' hs
   obtain ⟨e1,e2,e3⟩ :=FU (hx1.fin hsame)
   refine⟨cA,cc,by rw [e1,e2,e3];rfl,?_,hs.fin⟩
   rw [e1]
   cases fl
   ·exact .inr (ya hs (kr:=2) (kp:=3) rfl rfl Dc rfl (by have:=congrArg List.length (hx2 rfl);rw [jgF] at this;omega) (hx2 rfl) (fun j hj=>by have:=hsm _ (jgH hj);rw [Vm hj] at this;omega))
   ·exact(by obtain ⟨q1,q2⟩ :=hx3 rfl;injection q2 with q2 q3;exact .inl ⟨q2,q3,q1⟩)
  ·refine S6 ?_;refine a9 (jJ Ka J J (fun w1 hs=>VX rA ss.length rc (qY hot ss) w1 (hall▸Gm (hs.all 5 _ J).1 (hs.all 6 _ J).1 hlk hsml) Om)) ?_;refine S2 ?_;refine cZ (fun c4=> ?_) (fun c4=> ?_)
   ·refine S2 ?_;refine a9 (J0 J J (qq)) ?_;refine S11 ?_;refine HW J (qh (k:=1) J jI J J) (.tmp J) (.tmp J) ?_
    intro w' hs
    obtain ⟨e1,e2,e3⟩ :=FT (hx1.full c4)
    exact⟨none,0,by rw [e1,e2,e3];rfl,by rw [e1];exact .inr (OwnG.nil none),hs.fin⟩
   ·obtain ⟨k1,k2⟩ :=hx1.step hnd c4 (by simpa using c3)
    have hc4:=FF k1.reg k1.bare
    refine S14 ?_
    exact j4 hL1 ((r+1,qY hot ss,false,(rA,rc),l)) (⟨k1,(fun _=>hall),(fun e=>by cases e)⟩) (by simp only;omega) ⟨vi Om,sz⟩ (fun _ h=> (h.picks [0,1,5,6] Dc).upto ⟨by rw [vc],rfl,by rw [vc];rfl,sz⟩)
end Go.Proofs.YtbahojdbmmjkcaaGreat
namespace Go.Proofs.YtbahojdbmmjkcaaGreat
open Go Go.Shelf
def yU:Go.Shelf.Ren:=⟨fun | 6=>111 | 15=>168 | 14=>167 | 28=>226 | 29=>227 | 20=>218 | 21=>219 | 22=>220 | 23=>221 | 24=>222 | 25=>223 | 26=>224 | 27=>225 | 46=>251 | 47=>252 | 48=>253 | 49=>254 | 50=>255 | 57=>274 | n=>n,fun | 22=>58 | 24=>28 | 25=>159 | 3=>3 | 39=>184 | 0=>0 | 53=>252 | 55=>139 | 4=>4 | 46=>246 | 45=>245 | 50=>199 | 5=>5 | 9=>9 | 66=>280 | 70=>284 | 76=>298 | 77=>299 | n=>n,fun | n=>n⟩
theorem jb7:Go.Proofs.SlLaysF0.n6 Tryz.prog yU:= {
 mixed:=by kernel_rfl
 f6:=⟨Tryz.f111.name,by decide,Tryz.func111.trans (congrArg some Kr)⟩
 f14:=⟨Tryz.f167.name,by decide,Tryz.func167.trans (congrArg some Kr)⟩
 f15:=Tryz.func168.trans (congrArg some Kr)
 f20:=⟨Tryz.f218.name,by decide,Tryz.func218.trans (congrArg some Kr)⟩
 f21:=⟨Tryz.f219.name,by decide,Tryz.func219.trans (congrArg some Kr)⟩
 f22:=⟨Tryz.f220.name,by decide,Tryz.func220.trans (congrArg some Kr)⟩
 f23:=⟨Tryz.f221.name,by decide,Tryz.func221.trans (congrArg some Kr)⟩
 f24:=⟨Tryz.f222.name,by decide,Tryz.func222.trans (congrArg some Kr)⟩
 f25:=⟨Tryz.f223.name,by decide,Tryz.func223.trans (congrArg some Kr)⟩
 f26:=⟨Tryz.f224.name,by decide,Tryz.func224.trans (congrArg some Kr)⟩
 f27:=⟨Tryz.f225.name,by decide,Tryz.func225.trans (congrArg some Kr)⟩
 f28:=Tryz.func226.trans (congrArg some Kr)
 f29:=Tryz.func227.trans (congrArg some Kr)
 f46:=⟨Tryz.f251.name,by decide,Tryz.func251.trans (congrArg some Kr)⟩
 f47:=Tryz.func252.trans (congrArg some Kr)
 f48:=Tryz.func253.trans (congrArg some Kr)
 f49:=⟨Tryz.f254.name,by decide,Tryz.func254.trans (congrArg some Kr)⟩
 f50:=⟨Tryz.f255.name,by decide,Tryz.func255.trans (congrArg some Kr)⟩
 f57:=⟨Tryz.f274.name,by decide,Tryz.func274.trans (congrArg some Kr)⟩
 t0:=Tryz.underlying0
 a0:=Tryz.isAgg0
 z0:=Tryz.sizeOf0
 v0:=Tryz.zeroValue0
 t3:=Tryz.underlying3
 a3:=Tryz.isAgg3
 z3:=Tryz.sizeOf3
 v3:=Tryz.zeroValue3
 t4:=Tryz.underlying4
 a4:=Tryz.isAgg4
 z4:=Tryz.sizeOf4
 v4:=Tryz.zeroValue4
 t5:=Tryz.underlying5
 a5:=Tryz.isAgg5
 z5:=Tryz.sizeOf5
 v5:=Tryz.zeroValue5
 t9:=Tryz.underlying9
 a9:=Tryz.isAgg9
 z9:=Tryz.sizeOf9
 v9:=Tryz.zeroValue9
 t22:=Tryz.underlying58
 a22:=Tryz.isAgg58
 z22:=Tryz.sizeOf58
 v22:=Tryz.zeroValue58
 t25:=Tryz.underlying159
 a25:=Tryz.isAgg159
 z25:=Tryz.sizeOf159
 v25:=Tryz.zeroValue159
 t39:=Tryz.underlying184
 a39:=Tryz.isAgg184
 z39:=Tryz.sizeOf184
 v39:=Tryz.zeroValue184
 t45:=Tryz.underlying245
 a45:=Tryz.isAgg245
 z45:=Tryz.sizeOf245
 v45:=Tryz.zeroValue245
 t46:=Tryz.underlying246
 a46:=Tryz.isAgg246
 z46:=Tryz.sizeOf246
 v46:=Tryz.zeroValue246
 t50:=Tryz.underlying199
 a50:=Tryz.isAgg199
 z50:=Tryz.sizeOf199
 v50:=Tryz.zeroValue199
 t53:=Tryz.underlying252
 a53:=Tryz.isAgg252
 z53:=Tryz.sizeOf252
 v53:=Tryz.zeroValue252
 t55:=Tryz.underlying139
 a55:=Tryz.isAgg139
 z55:=Tryz.sizeOf139
 v55:=Tryz.zeroValue139
 t66:=Tryz.underlying280
 a66:=Tryz.isAgg280
 z66:=Tryz.sizeOf280
 v66:=Tryz.zeroValue280
 t70:=Tryz.underlying284
 a70:=Tryz.isAgg284
 z70:=Tryz.sizeOf284
 v70:=Tryz.zeroValue284
 t76:=Tryz.underlying298
 a76:=Tryz.isAgg298
 z76:=Tryz.sizeOf298
 v76:=Tryz.zeroValue298
 t77:=Tryz.underlying299
 a77:=Tryz.isAgg299
 z77:=Tryz.sizeOf299
 v77:=Tryz.zeroValue299}
end Go.Proofs.YtbahojdbmmjkcaaGreat
