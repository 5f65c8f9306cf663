import Derived.Test.YtpncbbcmoiiipaaGreatMPathP
import Derived.Test.YtpncbbcmoiiipaaGreatMEnds
import Derived.Test.YtpncbbcmoiiipaaGreatMSd2
import Derived.Test.YtpncbbcmoiiipaaGreatMSnapB
import Derived.Shelf.SlSortCmp.WholeK
import Derived.Test.YtpncbbcmoiiipaaGreatMHot
set_option linter.unusedVariables false
set_option linter.unusedSimpArgs false
namespace Go.Proofs.YtpncbbcmoiiipaaGreat
open Go Go.RowKit
set_option maxRecDepth 100000
set_option maxHeartbeats 4000000
theorem jeJ {xs ys:List Pn} (hl:xs.length=ys.length) (h:∀j,j<xs.length→pt xs j=pt ys j) :xs=ys:=by
 apply jjz hl
 intro i h1 h2
 rw [Kk h1,Kk h2]
 exact h i h1
theorem C9 (A B:Option Addr) (n m c d:Nat) (xs ys:List Pn) (w:World) (h:Pts w A n xs) (h':Pts w B m ys) (hn: (n:Int)≤9223372036854775807) :
  Calls Tryz.prog 154 #[.slice A n c, .slice B m d] w fun e w'=>e= .returned (.bool (decide (xs=ys)))∧Over w w':=by
 have hl:=h.1
 have hl':=h'.1
 refine Jh (m:=26) (Tryz.func154) J J (lb J) ?_;refine S13 ?_;refine cZ (fun c1=> ?_) (fun c1=> ?_)
 ·refine S6 ?_;refine jM J (.tmp J) ?_
  intro w' hs
  exact⟨QH (decide_eq_false (fun e=>by subst e;omega)).symm,hs.fin⟩
 ·have hnm:n=m:=Om
  subst hnm
  refine S10 ?_;refine qz (X:=Nat) (fun k=>k≤n∧∀j,j<k→pt xs j=pt ys j) (fun k=>n- k) (fun k=> [(13, .int .i64 (k:Int))]) (kK [0,1,4,12]) 0 (⟨jii _,fun j hj=>absurd hj Om⟩) ⟨J,sz⟩ ?_
  intro k hk L hL1
  refine v9 ?_
  obtain ⟨hk1,hk2⟩ :=hk
  refine S5 ?_;refine cZ (fun c2=> ?_) (fun c2=> ?_)
  ·have hlt:k<n:=Om
   obtain ⟨eb,eo,rfl,_⟩ :=h.2 Om
   obtain ⟨fb,fo,rfl,_⟩ :=h'.2 Om
   refine S11 ?_;refine JS 9 ?_;refine dK 0 ?_;refine dK 1 ?_;refine dK 2 ?_;refine dZ 3 J (jk J J jj J (wL (b:=eb) (o:=eo) h hlt)) ?_;refine dK 4 ?_;refine dK 5 ?_;refine dK 6 ?_;refine dZ 7 J (jk J J jj J (wL (b:=fb) (o:=fo) h' hlt)) ?_;refine dK 8 ?_;refine JK Kr ?_;refine S1 ?_;refine cZ (fun c3=> ?_) (fun c3=> ?_)
   ·refine S10 ?_;refine jM J (.tmp J) ?_
    intro w' hs
    exact⟨QH (decide_eq_false (fun e=>by subst e;simp at c3)).symm,hs.fin⟩
   ·have he:pt xs k=pt ys k:= (by simp at c3;exact Prod.ext c3.1 c3.2)
    refine S7 ?_
    exact qi hL1 (k+1) (⟨by omega,fun j hj=>by by_cases hjk:j=k;rw [hjk];exact he;exact hk2 j Om⟩) Om ⟨vi Om,sz⟩ (u9 rfl)
  ·refine S10 ?_;refine jM J (.tmp J) ?_
   intro w' hs
   exact⟨QH (decide_eq_true (jeJ Om fun j hj=>hk2 j Om)).symm,hs.fin⟩
theorem Iv (A B:Option Addr) (n m c d:Nat) (xs ys:List Pn) (w:World) (h:Pts w A n xs) (h':Pts w B m ys) (hn: (n:Int)≤9223372036854775807) :
  Calls Tryz.prog 153 #[Tf A n c,Tf B m d] w fun e w'=>e= .returned (.bool (decide (xs=ys)))∧Over w w':=by
 refine Jh (m:=10) (Tryz.func153) J J (lb J) ?_;refine S3 ?_;refine aX (fun b1=> ?_);refine N1 ?_;refine aX (fun b2=> ?_);refine N8 ?_;refine a9 (jT Wg J J (fun w1 hs=>C9 A B n m c d xs ys w1 (h.over hs.fin) (h'.over hs.fin) hn)) ?_;refine S3 ?_;refine jM J (.tmp J) ?_
 intro w' hs
 exact⟨rfl,hs.fin⟩
theorem Bz (A B:Option Addr) (n m c d:Nat) (rs ss:List jV) (w:World) (h:Rings w A n rs) (h':Rings w B m ss) (hn: (n:Int)≤9223372036854775807) :
  Calls Tryz.prog 152 #[.slice A n c, .slice B m d, .func (.func 153) #[] #[]] w fun e w'=>e= .returned (.bool (decide (rs=ss)))∧Over w w':=by
 have hl:=h.1
 have hl':=h'.1
 refine Jh (m:=32) (Tryz.func152) J J (lb J) ?_;refine S13 ?_;refine cZ (fun c1=> ?_) (fun c1=> ?_)
 ·refine S6 ?_;refine jM J (.tmp J) ?_
  intro w' hs
  exact⟨QH (decide_eq_false (fun e=>by subst e;omega)).symm,hs.fin⟩
 ·have hnm:n=m:=Om
  subst hnm
  refine S10 ?_;refine qz (X:=Nat) (fun k=>k≤n∧∀j,j<k→rg rs j=rg ss j) (fun k=>n- k) (fun k=> [(17, .int .i64 (k:Int))]) (kK [1,2,6,15,16]) 0 (⟨jii _,fun j hj=>absurd hj Om⟩) ⟨J,sz⟩ ?_
  intro k hk L hL1
  refine v9 ?_
  obtain ⟨hk1,hk2⟩ :=hk
  refine S5 ?_;refine cZ (fun c2=> ?_) (fun c2=> ?_)
  ·have hlt:k<n:=Om
   obtain ⟨eb,eo,Ak,ck,rfl,hbB,hcell,hpts,hmax⟩ :=h.at_ hlt
   obtain ⟨fb,fo,Bk,dk,rfl,hbB2,hcell2,hpts2,hmax2⟩ :=h'.at_ hlt
   refine S8 ?_;refine a9 (jk J J JM J (OO hcell hbB)) ?_;refine S1 ?_;refine aL (fun b1=> ?_);refine N9 ?_;refine a9 (jk J J JM J (OO hcell2 hbB2)) ?_;refine S1 ?_;refine aL (fun b2=> ?_);refine N8 ?_;refine a9 (Vw zY J J J (fun w1 hs=>Iv Ak Bk _ _ ck dk (rg rs k) (rg ss k) w1 (hpts.over hs.fin) (hpts2.over hs.fin) hmax)) ?_;refine S2 ?_;refine cZ (fun c3=> ?_) (fun c3=> ?_)
   ·refine S10 ?_;refine jM J (.tmp J) ?_
    intro w' hs
    exact⟨QH (decide_eq_false (fun e=>by subst e;simp at c3)).symm,hs.fin⟩
   ·have he:rg rs k=rg ss k:= (by simpa using c3)
    refine S7 ?_
    exact qi hL1 (k+1) (⟨by omega,fun j hj=>by by_cases hjk:j=k;rw [hjk];exact he;exact hk2 j Om⟩) Om ⟨vi Om,sz⟩ (u9 rfl)
  ·refine S10 ?_;refine jM J (.tmp J) ?_
   intro w' hs
   exact⟨QH (decide_eq_true (jg1 Om fun j hj=>hk2 j Om)).symm,hs.fin⟩
theorem zo (A B:Option Addr) (n m c d:Nat) (rs ss:List jV) (w:World) (h:Rings w A n rs) (h':Rings w B m ss) (hn: (n:Int)≤9223372036854775807) :
  Calls Tryz.prog 96 #[qT A n c,qT B m d] w fun e w'=>e= .returned (.bool (decide (rs=ss)))∧Over w w':=by
 refine Jh (m:=10) (Tryz.func96) J J (lb J) ?_;refine S3 ?_;refine aX (fun b1=> ?_);refine N1 ?_;refine aX (fun b2=> ?_);refine N8 ?_;refine a9 (jT kt J J (fun w1 hs=>Bz A B n m c d rs ss w1 (h.over hs.fin) (h'.over hs.fin) hn)) ?_;refine S3 ?_;refine jM J (.tmp J) ?_
 intro w' hs
 exact⟨rfl,hs.fin⟩
theorem Cl {w:World} {l:List Pc} (h: (vE l).P w) {e:Pc} (he:e∈l) :Pts w e.A e.xs.length e.xs:=by
 have h1:= (h.1 e.res (jip.2 ⟨e,he,rfl⟩)).1
 exact(jcU h1).pts
theorem Hw {w:World} {B T n:Nat} {l:List Pc} {x:Option Addr×Nat} (hr: (JY B T 1 n (l.map Pc.val) x).P w) (hP: (vE l).P w) (hl:l.length=n) (hs:∀e∈l,e.xs.length≤1099511627776) :Rings w x.1 n (l.map (·.xs)) :=by
 have hrow:w.ownsRow B T 1 (.slice x.1 n x.2) n (l.map Pc.val) :=hr
 refine⟨by rw [jit,hl],fun h0=> ?_⟩
 rcases hrow.2 with⟨_,e⟩ |⟨g,cap,cur,e,hb,hg,_⟩
 ·omega
 ·injection e with e1 e2 e3
  refine⟨g,0,e1,J3 hg,fun k hk=> ?_⟩
  have hkl:k<l.length:=by omega
  have hm:=jis hkl
  rw [YG hkl]
  refine⟨l[k].A,l[k].c,?_,Cl hP hm,by have:=hs _ hm;omega⟩
  have:=hrow.cells (g:=g) (by show Value.ownBlock (.slice x.1 n x.2) =some g;rw [e1];rfl) k l[k].val (by rw [List.getElem?_map,List.getElem?_eq_getElem hkl];rfl)
  rw [Q1] at this
  exact this
abbrev jaL:=Bool×(Option Addr×Nat)×List Pc
def uV (w:World) (n:Nat) (rs:List jV) (x:jaL) :Res:=
 if x.1=true then {F:=fun _=>False,P:=fun _=>Rings w x.2.1.1 n rs,low:=fun _ _ _ h=>h.elim,B:=0,dep:=fun _ _ h _ _=>h} else JY (Bs.N ⟨w,[]⟩) 77 1 n (x.2.2.map Pc.val) x.2.1
def ym (x:jaL) :Res:=
 if x.1=true then {F:=fun _=>False,P:=fun _=>True,low:=fun _ _ _ h=>h.elim,B:=0,dep:=fun _ _ h _ _=>h} else vE x.2.2
theorem jdW {w:World} {m:Nat} {env:List (Nat×Value)} {Rs:List Res} {K:Act→World→Prop} {A:Option Addr} {n c:Nat} {rs:List jV} (h0:Rings w A n rs) (h:At m env ⟨w,[]⟩ (Rs++ [uV w n rs (true,(A,c),[])] ++ [ym (true,(A,c),[])]) K) :At m env ⟨w,[]⟩ Rs K:=
 fun a w1 hf hs=>h a w1 hf ((hs.add (r:=uV w n rs (true,(A,c),[])) (Over.refl _) (show Rings w A n rs from h0) (fun b hb=> (show False from hb).elim) ⟨jii _,fun _ _=>jii _⟩).add (r:=ym (true,(A,c),[])) (Over.refl _) (show True from trivial) (fun b hb=> (show False from hb).elim) ⟨jii _,fun _ _=>jii _⟩)
theorem Ey {w w':World} {n:Nat} {rs:List jV} {x:jaL} (hr: (uV w n rs x).P w') (hp: (ym x).P w') (hO:Over w w') (hx:x.1=false→x.2.2.map (·.xs) =rs) (hn:rs.length=n) (hsm:∀r∈rs,r.length≤1099511627776) :Rings w' x.2.1.1 n rs:=by
 unfold uV at hr
 unfold ym at hp
 by_cases hf:x.1=true
 ·rw [if_pos hf] at hr
  exact(show Rings w x.2.1.1 n rs from hr).over hO
 ·rw [if_neg hf] at hr hp
  have e:=hx (by simpa using hf)
  have hll:x.2.2.length=n:=by have:=congrArg List.length e;rw [jit] at this;omega
  have:=Hw hr hp hll (fun d hd=>hsm d.xs (e▸jip.2 ⟨d,hd,rfl⟩))
  rwa [e] at this
theorem jgn {w w1:World} {n k:Nat} {rs:List jV} {x:jaL} (hr: (uV w n rs x).P w1) (hp: (ym x).P w1) (hx:x.1=false→x.2.2.map (·.xs) =rs) (hn:rs.length=n) (hk:k<n) :
  ∃bb oo,x.2.1.1=some ⟨bb,oo,none⟩∧∃Ak ck,∀w',(uV w n rs x).P w'→(ym x).P w'→Over w w'→w'.cell? ⟨bb,oo+k,none⟩ =some (.slice Ak (rg rs k).length ck)∧Pts w' Ak (rg rs k).length (rg rs k) :=by
 by_cases hf:x.1=true
 ·have hR:Rings w x.2.1.1 n rs:=by unfold uV at hr;rw [if_pos hf] at hr;exact hr
  obtain ⟨bb,oo,Ak,ck,e,hbB,hcell,hpts,_⟩ :=hR.at_ hk
  exact⟨bb,oo,e,Ak,ck,fun w' _ _ hO=>⟨((Jy hO).1 bb _ hbB).trans hcell,hpts.over hO⟩⟩
 ·have e:=hx (by simpa using hf)
  have hll:x.2.2.length=n:=by have:=congrArg List.length e;rw [jit] at this;omega
  have hkl:k<x.2.2.length:=by omega
  have hrow:w1.ownsRow (Bs.N ⟨w,[]⟩) 77 1 (.slice x.2.1.1 n x.2.1.2) n (x.2.2.map Pc.val) :=by unfold uV at hr;rw [if_neg hf] at hr;exact hr
  rcases hrow.2 with⟨_,e0⟩ |⟨g,cap,cur,e0,hb,hg,_⟩
  ·omega
  ·injection e0 with e1 e2 e3
   have hrg:rg rs k=x.2.2[k].xs:=by rw [←e,YG hkl]
   refine⟨g,0,e1,x.2.2[k].A,x.2.2[k].c,fun w' hr' hp' _=> ?_⟩
   have hrow':w'.ownsRow (Bs.N ⟨w,[]⟩) 77 1 (.slice x.2.1.1 n x.2.1.2) n (x.2.2.map Pc.val) :=by unfold uV at hr';rw [if_neg hf] at hr';exact hr'
   have hP': (vE x.2.2).P w':=by unfold ym at hp';rw [if_neg hf] at hp';exact hp'
   rw [hrg]
   refine⟨?_,Cl hP' (jis hkl)⟩
   have:=hrow'.cells (g:=g) (by show Value.ownBlock (.slice x.2.1.1 n x.2.1.2) =some g;rw [e1];rfl) k x.2.2[k].val (by rw [List.getElem?_map,List.getElem?_eq_getElem hkl];rfl)
   rw [Q1] at this
   exact this
theorem jhK {w0:Bs} {Rs:List Res} {b o k:Nat} {v:Value} (h:∀w',St w0 Rs w'→w'.cell? ⟨b,o+k,none⟩ =some v) :∀w',St w0 Rs w'→∀q u,[v][q]? =some u→w'.cell? ⟨b,o+k*1+q,none⟩ =some u:=fun w' hs q u hq=>by
 match q,hq with
 | 0,hq=>simp at hq;subst hq;rw [jjf,jj2];exact h w' hs
theorem Zj (A:Option Addr) (n c:Nat) (rs:List jV) (B:Option Addr) (m d:Nat) (hot:List Pn) (w:World) (h:Rings w A n rs) (hr:JE rs=true)
  (hh:Pts w B m hot) (hm:m≤1048576) (hmd:m≤d) (hok:∀p∈hot,wR p.1 p.2=true) (hasc:Asc hot) (hnd:hot.Nodup) (hG:bareG hot rs) :
  Calls Tryz.prog 108 #[qT A n c, .slice B m d] w fun e w'=>∃A' c',e= .returned (.tuple #[qT A' (IK hot rs).length c', .int .i64 (CV hot rs), .int .i64 (if L6 hot rs=true then 0 else 5)])∧((A'=A∧c'=c∧IK hot rs=rs)∨OwnG w.heap.size w'.heap.size w' A' (IK hot rs).length (IK hot rs))∧Over w w':=by
 have hl:=h.1
 subst hl
 have hhl:=hh.1
 refine Jh (m:=63) (Tryz.func108) J J (lb J) ?_;refine S3 ?_;refine aX (fun b1=> ?_);refine N1 ?_;refine aL (fun b2=> ?_);refine N7 ?_;refine jdW (c:=c) h ?_;refine t9 ?_;refine S1 ?_;refine JQ (X:=Nat×List jV×jaL) (fun x=>StabI hot rs x.2.1 x.1∧(x.2.2.1=false→x.2.2.2.2.map (·.xs) =x.2.1)∧(x.2.2.1=true→x.2.1=rs∧x.2.2.2.1= (A,c))) (fun x=>401- cnt x.2.1) (fun x=> [(7, .int .i64 (x.1:Int))]) (kK [1,2,4,5,6]) (fun x=> [.cel b1 26 [.slice x.2.2.2.1.1 x.2.1.length x.2.2.2.1.2], .cel b2 26 [.slice none 0 0],uV w x.2.1.length x.2.1 x.2.2,ym x.2.2]) (0,rs,true,(A,c),[]) (⟨StabI.start hr hG,(fun e=>by cases e),fun _=>⟨rfl,rfl⟩⟩) ⟨rfl,sz⟩ (fun _ h=>h) ?_
 intro⟨r,ss,fl,⟨cA,cc⟩,cl⟩ hx L hL1
 refine v9 ?_;refine r9 ?_
 obtain ⟨hx1,hx2,hx3⟩ :StabI hot rs ss r∧(fl=false→cl.map (·.xs) =ss)∧(fl=true→ss=rs∧(cA,cc) = (A,c)) :=hx
 have hr400:=hx1.r_le
 have hs40:=WR hx1.reg
 have hsm:∀q∈ss,q.length≤1099511627776:= (fun q hq=>by obtain ⟨i,hi,e⟩ :=ji0 hq;have:=Qf (Km hx1.reg hi);rw [Wa hi] at e;rw [e] at this;omega)
 refine S5 ?_;refine aL (fun b3=> ?_);refine N1 ?_;refine Q7 (T:=77) (s:=1) ?_;refine t9 ?_;refine Vq ?_;refine t9 ?_;refine S9 ?_;refine JQ (X:=Nat×(Option Addr×Nat)×List Pc) (fun y=>y.1≤ss.length∧y.2.2.map (·.xs) = (qR hot ss).take y.1) (fun y=>ss.length- y.1) (fun y=> [(20, .int .i64 (y.1:Int))]) (kK [1,2,4,5,6,7,8,17,18,19]) (fun y=> [.cel b1 26 [.slice cA ss.length cc], .cel b2 26 [.slice none 0 0],uV w ss.length ss (fl,(cA,cc),cl),ym (fl,(cA,cc),cl), .cel b3 26 [.slice y.2.1.1 y.1 y.2.1.2],JY (Bs.N ⟨w,[]⟩) 77 1 y.1 (y.2.2.map Pc.val) y.2.1,vE y.2.2]) (0,(none,0),[]) (⟨jii _,J⟩) ⟨J,sz⟩ (fun _ h=>h) ?_
 intro⟨k,⟨rA,rc⟩,l⟩ hy L hL2
 refine v9 ?_;refine r9 ?_
 obtain ⟨hk,hmp⟩ :k≤ss.length∧l.map (·.xs) = (qR hot ss).take k:=hy
 have hlk:l.length=k:= (by have:=congrArg List.length hmp;rw [jit,jiy,vW] at this;omega)
 refine S5 ?_;refine cZ (fun c1=> ?_) (fun c1=> ?_)
 ·have hlt:k<ss.length:=Om
  refine ky (fun w1 hs=>jgn (hs.all 2 _ J).1 (hs.all 3 _ J).1 hx2 J hlt) ?_
  rintro⟨eb,eo,eA0,Ak,ck,hread⟩
  have eA1:cA=some ⟨eb,eo,none⟩ :=eA0
  subst eA1
  have hpos:=Qf (Km hx1.reg hlt)
  obtain ⟨ho1,ho2,ho3⟩ :=hx1.bare.on hlt
  have hsl:=ZM (hot:=hot) (xs:=rg ss k) Om Om
  obtain ⟨E,hEe⟩ :∃E,E=J0 (rg ss k) :=⟨_,rfl⟩
  have hEl:E.length≤400:= (by rw [hEe];omega)
  refine S7 ?_;refine a9 (jk J J JM J (jhK (fun w' hs=> (hread w' (hs.all 2 _ J).1 (hs.all 3 _ J).1 hs.fin).1))) ?_;refine S1 ?_;refine aL (fun b4=> ?_);refine N6 ?_;refine Q7 (T:=56) (s:=2) ?_;refine N6 ?_;refine J4 Ug (v:=fun x:Option Addr×Nat=> .slice x.1 (J0 (rg ss k)).length x.2) (r:=fun x=>JY 0 131 4 _ _ x) (H:=fun _=>True) J J J (lb J) (fun w1 hs=>Qh (uW Ak _ ck (rg ss k) w1 (hread w1 (hs.all 2 _ J).1 (hs.all 3 _ J).1 hs.fin).2 Om)) ?_
  rintro⟨eA,ec⟩ -
  refine N3 ?_
  rw [←hEe]
  refine S1 ?_;refine JQ (X:=Nat×Option Addr×Nat) (fun z=>z.1≤E.length) (fun z=>E.length- z.1) (fun z=> [(11, .slice z.2.1 (UW hot E z.1).length z.2.2),(27, .int .i64 (z.1:Int))]) (kK [1,2,4,5,6,7,8,17,18,19,20,21,22,23,10,24,25,26]) (fun z=> [.cel b1 26 [.slice (some ⟨eb,eo,none⟩) ss.length cc], .cel b2 26 [.slice none 0 0],uV w ss.length ss (fl,(some ⟨eb,eo,none⟩,cc),cl),ym (fl,(some ⟨eb,eo,none⟩,cc),cl), .cel b3 26 [.slice rA k rc],JY (Bs.N ⟨w,[]⟩) 77 1 k (l.map Pc.val) (rA,rc),vE l, .cel b4 77 [.slice Ak (rg ss k).length ck],JY (Bs.N ⟨w,[]⟩) 56 2 (UW hot E z.1).length ((UW hot E z.1).flatMap Js) z.2,JY 0 131 4 E.length (E.flatMap jZ) (eA,ec)]) (0,none,0) (jii _) ⟨J,sz⟩ (fun _ h=>h) ?_
  intro⟨j,qA,qc⟩ hz L hL3
  refine v9 ?_;refine r9 ?_
  have hj:j≤E.length:=hz
  have hsn:=X9 (hot:=hot) (E:=E) (m:=1048576) Om j hj
  refine S5 ?_;refine cZ (fun c2=> ?_) (fun c2=> ?_)
  ·have hjl:j<E.length:=Om
   obtain ⟨g1',g2',g3'⟩ := (hEe▸ho1:onHot hot E).at_ hjl
   obtain ⟨mid,hmid⟩ :=ZH g1' g2' g3'
   have hpl:0< (qD (lA (lg E j)) (lB (lg E j)) hot).length:= (by rw [hmid];simp)
   have hpm: (qD (lA (lg E j)) (lB (lg E j)) hot).length≤1048576:= (by rw [wK];have:=Gg (lA (lg E j)) (lB (lg E j)) hot;omega)
   refine ky (fun w hs=>VJ (k:=9) J hs Om) ?_
   rintro⟨eg,rfl⟩
   refine S7 ?_;refine a9 (jk J J qG J (ya (b:=eg) (o:=0) (JC (k:=9) (x:= (some ⟨eg,0,none⟩,ec)) (ls:=E) J J) hjl)) ?_;refine S1 ?_;refine aL (fun b5=> ?_);refine N1 ?_;refine j9 10 qn.szx ?_;refine N4 ?_;refine a9 (jk J J jj J (Yg (k:=10) J J J)) ?_;refine S1 ?_;refine a9 (jk J J jj J (Yg (k:=10) J J J)) ?_;refine S2 ?_;refine J4 G2 (v:=fun x:Option Addr×Nat=> .slice x.1 (qD (lA (lg E j)) (lB (lg E j)) hot).length x.2) (r:=fun x=>JY 0 56 2 (qD (lA (lg E j)) (lB (lg E j)) hot).length ((qD (lA (lg E j)) (lB (lg E j)) hot).flatMap Js) x) (H:=fun _=>True) J J J (lb J) (fun w1 hs=>Qh (ID (lA (lg E j)) (lB (lg E j)) B m d hot w1 (hh.over hs.fin) (hok _ g2') (hok _ g3') hok hasc hmd hm)) ?_
   rintro⟨pA,pc⟩ -
   refine N2 ?_;refine ky (fun w hs=>VJ (k:=11) J hs hpl) ?_
   rintro⟨pg,rfl⟩
   refine ky (fun w hs=>uZ (hs.all 11 _ J).1) ?_
   intro hcap
   have hst:UW hot E (j+1) =UW hot E j++ (qD (lA (lg E j)) (lB (lg E j)) hot).take ((qD (lA (lg E j)) (lB (lg E j)) hot).length- 1) := (by rw [HA hjl];unfold Qs;rw [List.dropLast_eq_take])
   have hstl: (UW hot E (j+1)).length= (UW hot E j).length+ ((qD (lA (lg E j)) (lB (lg E j)) hot).length- 1) := (by rw [hst,jif,jiy];omega)
   refine S5 ?_;refine a9 ((JJ J J J Om Om).as (congrArg _ (show(((qD (lA (lg E j)) (lB (lg E j)) hot).length:Int) - 1) = (((qD (lA (lg E j)) (lB (lg E j)) hot).length- 1:Nat) :Int) by omega))) ?_;refine a9 ((Kl J J J jw Om).as (WT _ _ _ _ _)) ?_;refine S1 ?_;refine JV (k:=8) J jw jH Dc J Dc J J J (fun w' hs=>IG (uu (hs.all 11 _ J).1 J) Om) (Ww _) (by unfold maxLen;omega) Om (jih _) (fun r1=> ?_);refine N8 ?_
   exact Ji hL3 ((j+1,r1)) ((show j+1≤E.length by omega)) (by simp only;omega) ⟨(by rw [hstl];rfl),vi Om,sz⟩ (fun _ h=> (h.picks [0,1,2,3,4,5,6,7,8,9] Dc).upto ⟨J,J,J,J,J,J,J,J,by rw [hstl,hst,jio],sz⟩)
  ·have hjE:j=E.length:=Om
   subst hjE
   rw [show UW hot E E.length=kU hot (rg ss k) by rw [OZ,hEe]]
   refine S9 ?_;refine a9 (JU J J (Vs J)) ?_;refine S1 ?_;refine Jx J J (qH J) J (lb J) (fun b6=> ?_);refine N1 ?_;refine JV (k:=5) J jK Jw Dc J Dc J J J (fun w' hs=>Qb hs (k:=10) J J) (by simp [Value.oneCell']) (by unfold maxLen;omega) Om (jih _) (fun r2=> ?_);refine N4 ?_;refine ZY 8 J J (fun clo chi=> ?_);refine t9 ?_;refine wN 6 8 J J Dc J ?_;refine t9 ?_;refine S6 ?_
   exact Ji hL2 ((k+1,r2,l++ [⟨kU hot (rg ss k),qA,qc,clo,chi⟩])) (⟨show k+1≤ss.length by omega,by rw [jiO,hmp,wl (by rw [vW];omega),OS hlt];rfl⟩) (by simp only;omega) ⟨vi Om,sz⟩ (fun _ h=> (h.picks [0,1,2,3,4,5,6] Dc).upto ⟨J,J,J,J,J,by rw [jiO];rfl,(vT _ _).symm,trivial⟩)
 ·have hkn:k=ss.length:=Om
  subst hkn
  have hall:l.map (·.xs) =qR hot ss:= (by rw [hmp,jiK (by rw [vW];omega)])
  have hsml:∀e∈l,e.xs.length≤1099511627776:= (fun e he=>by obtain ⟨q,hq,e2⟩ :=jip.1 (hall▸jip.2 ⟨e,he,rfl⟩ :e.xs∈qR hot ss);rw [←e2];obtain ⟨i,hi,e3⟩ :=ji0 hq;have:=Qf (Km hx1.reg hi);rw [Wa hi] at e3;rw [e3] at this;have:=ZM (hot:=hot) (xs:=q) Om Om;omega)
  refine S10 ?_;refine a9 (jT UI J J (fun w1 hs=>zo rA cA ss.length ss.length rc cc (qR hot ss) ss w1 (hall▸Hw (hs.all 5 _ J).1 (hs.all 6 _ J).1 hlk hsml) (Ey (hs.all 2 _ J).1 (hs.all 3 _ J).1 hs.fin hx2 J hsm) Om)) ?_;refine S1 ?_;refine cZ (fun c3=> ?_) (fun c3=> ?_)
  ·have hsame:qR hot ss=ss:= (by simpa using c3)
   refine S15 ?_;refine L9 J (qh (k:=1) J jG J J) (.tmp J) (.tmp J) ?_
   intro w' hs
   obtain ⟨e1,e2,e3⟩ :=wW (hx1.fin hsame)
   refine⟨cA,cc,by rw [e1,e2,e3];rfl,?_,hs.fin⟩
   rw [e1]
   cases fl
   ·exact .inr (yZ hs (kr:=2) (kp:=3) rfl rfl Dc rfl (by have:=congrArg List.length (hx2 rfl);rw [jit] at this;omega) (hx2 rfl) (fun j hj=>by have:=hsm _ (jis hj);rw [Wa hj] at this;omega))
   ·exact(by obtain ⟨q1,q2⟩ :=hx3 rfl;injection q2 with q2 q3;exact .inl ⟨q2,q3,q1⟩)
  ·refine S6 ?_;refine a9 (jT vG J J (fun w1 hs=>wM rA ss.length rc (qR hot ss) w1 (hall▸Hw (hs.all 5 _ J).1 (hs.all 6 _ J).1 hlk hsml) Om)) ?_;refine S2 ?_;refine cZ (fun c4=> ?_) (fun c4=> ?_)
   ·refine S2 ?_;refine a9 (JU J J (qg)) ?_;refine S11 ?_;refine L9 J (qh (k:=1) J jG J J) (.tmp J) (.tmp J) ?_
    intro w' hs
    obtain ⟨e1,e2,e3⟩ :=IL (hx1.full c4)
    exact⟨none,0,by rw [e1,e2,e3];rfl,by rw [e1];exact .inr (OwnG.nil none),hs.fin⟩
   ·obtain ⟨k1,k2⟩ :=hx1.step hnd c4 (by simpa using c3)
    have hc4:=Is k1.reg k1.bare
    refine S14 ?_
    exact Ji hL1 ((r+1,qR hot ss,false,(rA,rc),l)) (⟨k1,(fun _=>hall),(fun e=>by cases e)⟩) (by simp only;omega) ⟨vi Om,sz⟩ (fun _ h=> (h.picks [0,1,5,6] Dc).upto ⟨by rw [vW],rfl,by rw [vW];rfl,sz⟩)
end Go.Proofs.YtpncbbcmoiiipaaGreat
namespace Go.Proofs.YtpncbbcmoiiipaaGreat
open Go Go.Shelf
def YL:Go.Shelf.Ren:=⟨fun | 6=>165 | 15=>210 | 14=>209 | 28=>259 | 29=>260 | 20=>251 | 21=>252 | 22=>253 | 23=>254 | 24=>255 | 25=>256 | 26=>257 | 27=>258 | 46=>275 | 47=>276 | 48=>277 | 49=>278 | 50=>279 | 57=>294 | n=>n,fun | 22=>29 | 24=>56 | 25=>191 | 3=>3 | 39=>206 | 0=>0 | 53=>270 | 55=>171 | 4=>4 | 46=>264 | 45=>263 | 50=>227 | 5=>5 | 9=>9 | 66=>290 | 70=>294 | 76=>306 | 77=>307 | n=>n,fun | n=>n⟩
theorem jdp:Go.Proofs.SlLaysF0.n6 Tryz.prog YL:= {
 mixed:=by kernel_rfl
 f6:=⟨Tryz.f165.name,by decide,Tryz.func165.trans (congrArg some Kr)⟩
 f14:=⟨Tryz.f209.name,by decide,Tryz.func209.trans (congrArg some Kr)⟩
 f15:=Tryz.func210.trans (congrArg some Kr)
 f20:=⟨Tryz.f251.name,by decide,Tryz.func251.trans (congrArg some Kr)⟩
 f21:=⟨Tryz.f252.name,by decide,Tryz.func252.trans (congrArg some Kr)⟩
 f22:=⟨Tryz.f253.name,by decide,Tryz.func253.trans (congrArg some Kr)⟩
 f23:=⟨Tryz.f254.name,by decide,Tryz.func254.trans (congrArg some Kr)⟩
 f24:=⟨Tryz.f255.name,by decide,Tryz.func255.trans (congrArg some Kr)⟩
 f25:=⟨Tryz.f256.name,by decide,Tryz.func256.trans (congrArg some Kr)⟩
 f26:=⟨Tryz.f257.name,by decide,Tryz.func257.trans (congrArg some Kr)⟩
 f27:=⟨Tryz.f258.name,by decide,Tryz.func258.trans (congrArg some Kr)⟩
 f28:=Tryz.func259.trans (congrArg some Kr)
 f29:=Tryz.func260.trans (congrArg some Kr)
 f46:=⟨Tryz.f275.name,by decide,Tryz.func275.trans (congrArg some Kr)⟩
 f47:=Tryz.func276.trans (congrArg some Kr)
 f48:=Tryz.func277.trans (congrArg some Kr)
 f49:=⟨Tryz.f278.name,by decide,Tryz.func278.trans (congrArg some Kr)⟩
 f50:=⟨Tryz.f279.name,by decide,Tryz.func279.trans (congrArg some Kr)⟩
 f57:=⟨Tryz.f294.name,by decide,Tryz.func294.trans (congrArg some Kr)⟩
 t0:=Tryz.underlying0
 a0:=Tryz.isAgg0
 z0:=Tryz.sizeOf0
 v0:=Tryz.zeroValue0
 t3:=Tryz.underlying3
 a3:=Tryz.isAgg3
 z3:=Tryz.sizeOf3
 v3:=Tryz.zeroValue3
 t4:=Tryz.underlying4
 a4:=Tryz.isAgg4
 z4:=Tryz.sizeOf4
 v4:=Tryz.zeroValue4
 t5:=Tryz.underlying5
 a5:=Tryz.isAgg5
 z5:=Tryz.sizeOf5
 v5:=Tryz.zeroValue5
 t9:=Tryz.underlying9
 a9:=Tryz.isAgg9
 z9:=Tryz.sizeOf9
 v9:=Tryz.zeroValue9
 t22:=Tryz.underlying29
 a22:=Tryz.isAgg29
 z22:=Tryz.sizeOf29
 v22:=Tryz.zeroValue29
 t25:=Tryz.underlying191
 a25:=Tryz.isAgg191
 z25:=Tryz.sizeOf191
 v25:=Tryz.zeroValue191
 t39:=Tryz.underlying206
 a39:=Tryz.isAgg206
 z39:=Tryz.sizeOf206
 v39:=Tryz.zeroValue206
 t45:=Tryz.underlying263
 a45:=Tryz.isAgg263
 z45:=Tryz.sizeOf263
 v45:=Tryz.zeroValue263
 t46:=Tryz.underlying264
 a46:=Tryz.isAgg264
 z46:=Tryz.sizeOf264
 v46:=Tryz.zeroValue264
 t50:=Tryz.underlying227
 a50:=Tryz.isAgg227
 z50:=Tryz.sizeOf227
 v50:=Tryz.zeroValue227
 t53:=Tryz.underlying270
 a53:=Tryz.isAgg270
 z53:=Tryz.sizeOf270
 v53:=Tryz.zeroValue270
 t55:=Tryz.underlying171
 a55:=Tryz.isAgg171
 z55:=Tryz.sizeOf171
 v55:=Tryz.zeroValue171
 t66:=Tryz.underlying290
 a66:=Tryz.isAgg290
 z66:=Tryz.sizeOf290
 v66:=Tryz.zeroValue290
 t70:=Tryz.underlying294
 a70:=Tryz.isAgg294
 z70:=Tryz.sizeOf294
 v70:=Tryz.zeroValue294
 t76:=Tryz.underlying306
 a76:=Tryz.isAgg306
 z76:=Tryz.sizeOf306
 v76:=Tryz.zeroValue306
 t77:=Tryz.underlying307
 a77:=Tryz.isAgg307
 z77:=Tryz.sizeOf307
 v77:=Tryz.zeroValue307}
end Go.Proofs.YtpncbbcmoiiipaaGreat
namespace Go.Proofs.YtpncbbcmoiiipaaGreat
open Go Go.Shelf Go.RowKit Go.Lib Go.Sort
def wE (p q:Pn) :Int:=if p.2=q.2 then wt (p.1- q.1) else wt (p.2- q.2)
theorem MP (p q:Pn) :wE p q<0↔vh p q:=by
 have h1:=u7 (p.1- q.1)
 have h2:=u7 (p.2- q.2)
 unfold wE vh
 split<;>omega
set_option maxHeartbeats 1000000 in
theorem UY (p q:Pn) (hp:ZQ p) (hq:ZQ q) (W:World) :Calls Tryz.prog 166 #[.agg #[.int .i64 p.1, .int .i64 p.2], .agg #[.int .i64 q.1, .int .i64 q.2]] W fun e w'=>e= .returned (.int .i64 (wE p q))∧∃q' os',w'=grow (W.drewN q') os':=by
 obtain ⟨⟨p1,p2⟩,p3,p4⟩ :=hp
 obtain ⟨⟨q1,q2⟩,q3,q4⟩ :=hq
 by_cases h:p.2=q.2
 ·have e:wE p q=wt (p.1- q.1) :=if_pos h
  have hc:=Kv (p.1- q.1)
  rw [e]
  generalize wt (p.1- q.1) =r at hc⊢
  go_enter Tryz.func166,Tryz.ntmps166
  go_wp2_with (go_at_call 202;refine(hc _).mono ?_;rintro e w' ⟨rfl,rfl⟩)
  go_ret
  exact⟨rfl,0,_,by rw [alloc_eq_grow,alloc_eq_grow,grow_grow];rfl⟩
 ·have e:wE p q=wt (p.2- q.2) :=if_neg h
  have hc:=Kv (p.2- q.2)
  rw [e]
  generalize wt (p.2- q.2) =r at hc⊢
  go_enter Tryz.func166,Tryz.ntmps166
  go_wp2_with (go_at_call 202;refine(hc _).mono ?_;rintro e w' ⟨rfl,rfl⟩)
  go_ret
  exact⟨rfl,0,_,by rw [alloc_eq_grow,alloc_eq_grow,grow_grow];rfl⟩
theorem Zk {l r vs:List Value} :∀ {off:Nat},off+vs.length≤l.length→qP (l++r) off vs=qP l off vs++r:=by
 induction vs generalizing l with
 | nil=>intro off _;rfl
 | cons v vs ih=>
  intro off h
  simp only [jim] at h
  rw [qP,qP,List.set_append_left _ _ Om]
  exact ih (by simp;omega)
end Go.Proofs.YtpncbbcmoiiipaaGreat
